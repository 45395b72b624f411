/- Text 33 for FnExactAhead. -/
import Derived.Test.YtmpnhclbmgjpgaaGreatAhead32
set_option linter.unusedVariables false
set_option linter.unusedSimpArgs false
namespace Go.Am
open Go.Proofs
set_option maxHeartbeats 4000000
set_option maxRecDepth 100000
attribute [-simp] BitVec.toNat_or BitVec.toNat_and BitVec.toNat_ofInt
section
attribute [-simp] z03 z05 z02
theorem x1v (P:Nat→Prop): ∀n,∃E,E<2 ^ n∧∀j,E.testBit j=true↔j<n∧P j
 | 0=>⟨0,by simp,fun j=>by simp⟩
 | n+1=>by
   obtain⟨E,h1,h2⟩:=x1v P n
   have hp:2 ^ n<2 ^ (n+1):=Nat.pow_lt_pow_right (by omega) (by omega)
   have hn:E.testBit n=false:=Nat.testBit_lt_two_pow h1
   by_cases c:P n
   ·refine⟨E ||| 2 ^ n,Nat.or_lt_two_pow (by omega) hp,fun j=>?_⟩
    rw[Nat.testBit_or,Bool.or_eq_true,h2,Nat.testBit_two_pow]
    simp only[decide_eq_true_eq]
    constructor
    ·rintro (⟨h3,h4⟩ | rfl)
     ·exact⟨by omega,h4⟩
     ·exact⟨by omega,c⟩
    ·rintro⟨h3,h4⟩
     by_cases e:n=j
     ·exact .inr e
     ·exact .inl ⟨by omega,h4⟩
   ·refine⟨E,by omega,fun j=>?_⟩
    rw[h2]
    constructor
    ·rintro⟨h3,h4⟩; exact⟨by omega,h4⟩
    ·rintro⟨h3,h4⟩
     by_cases e:j=n
     ·subst e; exact absurd h4 c
     ·exact⟨by omega,h4⟩
theorem b0s {g:TGram} {w row:List Int} {a f:Nat} (hw:w.length≤10) (h:IsFar (Tch g.parts w row a) f):(Drv g.parts w row a w.length→FarIs g w row a (f - a+1))∧(¬Drv g.parts w row a w.length→FarIs g w row a (f - a)):=by
 obtain⟨E,h1,h2⟩:=x1v (Drv g.parts w row a) 11
 have hs:Spr g.parts w row a E f:=⟨h1,fun j=>by rw[h2]; exact⟨fun h=>h.2,fun h=>⟨by have:=h.le; omega,h⟩⟩,h⟩
 constructor
 ·intro hd
  have e:f=w.length:=Nat.le_antisymm h.1.le.2 (h.2 _ (i0n hd))
  refine⟨E,f,hs,?_⟩
  rw[if_pos ((hs.2.1 _).2 hd),e]
 ·intro hd
  refine⟨E,f,hs,?_⟩
  rw[if_neg fun h=>hd ((hs.2.1 _).1 h)]
def b1l:K:=dc 0x4227067280081003108981982e6500494a003040902900e633c48e20010a285f0477de6170d70acade75c083b058600e008074301c6c00426da00669935924060101758004259500655435424044000800029305349104448301140f383381b1040300f04038900704024d04d30b080b0530200b1010421010080390440016a8202040
def i18:Nat×List RV:=(40,[.t 8])
theorem c_276:z01 PG 276 i18 b1l:=by unfold z01; kernel_rfl
theorem p1x {F:FarF} (hF:s0e F) (g:TGram) (row w:List Int) (a:Nat) (hc:y09 g=0) (hgw:z0q g<2 ^ 31) (hwl:w.length≤10) (ha:a≤w.length) (hrl:row.length<2 ^ 31) (hok:row.all (y0o g.parts.length)=true) :
 z06 Tryz.prog 276 [.agg (z0b g),.one (.ar false 0 1 (row.map rI)),.one (.ar false 0 1 (w.map rI)),aI a] (aI (F g w row a)):=by
 have hg:=y0t hc
 have hgl:=x0k hg
 have hnew:=n1o g w hgl.2 (by omega)
 have hsy: ∀x∈row,100≤x→prt x<g.parts.length:=fun x hx h100=>by
  have:=List.all_eq_true.1 hok x hx
  simp only[y0o,Bool.or_eq_true,z0l] at this
  unfold prt; omega
 have hrow: ∀t M L,WOk g w M→FOk g w L→CallsA Tryz.prog 297 [.one (.pt 3 1000 [] 0 0),.one (.ar false 0 1 (row.map rI)),aI a] [(1000,⟨t,3,[l8C g w M L]⟩)] (u0z g w t row a):=fun t M L hM hL=>by
  refine v1c g w t row a M L hM hL hc hgw hwl ha hrl hok fun pre x post j M L hr hx hd hM hL=>?_
  have hxk:=hsy x (by rw[hr]; simp) hx
  have e:(x - 100:Int)=((prt x:Nat):Int):=by unfold prt; omega
  have e2:x=100+((prt x:Nat):Int):=by unfold prt; omega
  rw[e]
  have:=r1x g w t hc hgw hwl _ (prt x) j M L (Nat.lt_succ_self _) hM hL hxk hd.le.2
  rwa [← e2] at this
 have hRe: ∀t r H,u0z g w t row a r H→∃(f:Nat) (M:WM) (L:FM),IsFar (Tch g.parts w row a) f∧WOk g w M∧FOk g w L∧H=[(1000,⟨t,3,[l8C g w M L]⟩)]∧r=aI f:=fun t r H h=>h
 obtain⟨z,hz,hat⟩: ∃z:List Int,Cnt (w.length+1) z (fun j=>j=a)∧∀x2 x3,z06 Tryz.prog 299 [.one (.ps [.ar false 0 1 (g.parts.map sISS),.ar false 0 1 (w.map rI),.ar false 0 1 x2,.ar false 0 1 x3]),aI a] (.one (.ar true 3 1 (z.map rI))):=⟨_,w1f (by omega),fun x2 x3=>q0m w (g.parts.map sISS) x2 x3 a (by omega) ha⟩
 have hgo: ∀(t:Nat) (M:WM),WOk g w M→CallsA Tryz.prog 298 [.one (.pt 4 1000 [] 0 0),.one (.ar false 0 1 (row.map rI)),.one (.ar false 0 1 (z.map rI))] [(1000,⟨t,4,[l7C g w M]⟩)] (fun r H=>∃(v:List Int) (M:WM),Cnt (w.length+1) v (Drv g.parts w row a)∧WOk g w M∧H=[(1000,⟨t,4,[l7C g w M]⟩)]∧r = .one (.ar true 3 1 (v.map rI))):=by
  intro t M hM
  refine CallsA.mono (v1a g w t row z _ M hM hz hg hwl hrl hok fun pre x post b j M hr hx ha hd hM=>?_) ?_
  ·have hxk:=hsy x (by rw[hr]; simp) hx
   have e:(x - 100:Int)=((prt x:Nat):Int):=by unfold prt; omega
   have e2:x=100+((prt x:Nat):Int):=by unfold prt; omega
   rw[e]
   have:=b0z g w t hc hgw hwl _ (prt x) j M (Nat.lt_succ_self _) hM hxk hd.le.2
   rwa [← e2] at this
  ·rintro r H ⟨v,M,h1,h2,h3,h4⟩
   exact⟨v,M,h1.congr fun j _=>⟨fun h=>⟨a,rfl,h⟩,fun ⟨a,h,h2⟩=>h ▸ h2⟩,h2,h3,h4⟩
 have hfi: ∀f,IsFar (Tch g.parts w row a) f→(Drv g.parts w row a w.length→F g w row a=f - a+1)∧(¬Drv g.parts w row a w.length→F g w row a=f - a):=fun f h=>
  ⟨fun h2=>hF _ _ _ _ _ ((b0s hwl h).1 h2),fun h2=>hF _ _ _ _ _ ((b0s hwl h).2 h2)⟩
 have hM0:=u1l g w
 have hL0:=u1j g w
 generalize F g w row a=q at *
 refine g1u c_276 (by simp[i18]) (by simp) ?_
 (conv in b1l=>reduce); unfold i18
 obtain⟨ps⟩:=g
 simp only[l8C,l7C,z0b] at hnew hrow hRe hgo hat
 simp only at hM0 hL0
 simp[z0b]
 first | refine z00 hnew (by simp) ?_ | refine z0c hnew (by simp) ?_ | refine z0z hnew (by simp) ?_ | refine z0e hnew rfl rfl (by simp) (by simp) ?_ | refine⟨_,by simp,hnew,?_⟩
 try simp
 refine CallsA.mono (hrow _ _ _ hM0 hL0) ?_
 intro r H hr
 obtain⟨f,M',L',hf,hM',hL',rfl,rfl⟩:=hRe _ r H hr
 refine⟨_,rfl,rfl,rfl,.inl rfl,by simp,?_⟩
 have hfb:=hf.1.le
 have hfi:=hfi f hf
 have w1:IntKind.i64.wrap ((f:Int) - a)=f - a:=z08 (by omega) (by omega)
 simp[w1]
 have hat:=hat (z0i (M'.map wayR)) (z0i (M'.map donR))
 first | refine z00 hat (by simp) ?_ | refine z0c hat (by simp) ?_ | refine z0z hat (by simp) ?_ | refine z0e hat rfl rfl (by simp) (by simp) ?_ | refine⟨_,by simp,hat,?_⟩
 try simp
 refine CallsA.mono (hgo _ _ hM') ?_
 rintro r H ⟨v,M2,hv,hM2,rfl,rfl⟩
 refine⟨_,rfl,rfl,rfl,.inr rfl,by simp,?_⟩
 have hvl:=hv.1
 have hlv:w.length<v.length:=by omega
 have hlv':(w.length:Int)<v.length:=by omega
 have w2:IntKind.i64.wrap ((f:Int) - a+1)=f - a+1:=z08 (by omega) (by omega)
 have hd:=hv.2.2 w.length hlv
 by_cases c:0<v[w.length]
 ·have e:=hfi.1 (hd.1 c)
  have e2:((q:Nat):Int)=(f:Int) - a+1:=by omega
  simp[hlv,hlv',c,w2,e2]
 ·have e:=hfi.2 fun h=>c (hd.2 h)
  have e2:((q:Nat):Int)=(f:Int) - a:=by omega
  simp[hlv,hlv',c,e2]
end
section
attribute [-simp] z03 z05 z02
open Classical in
noncomputable def q1q (g:TGram) (ls:List TLine) (i:Nat):Bool:=match ls[i]? with
 | some l=>decide (s0v g l.frm l.letter=some l.too) && decide (x0l (pL l.frm l.letter) (ls.take i) 0 = -1)
 | none=>true
noncomputable def allG (g:TGram) (ls:List TLine):Nat→Nat→Bool
 | 0,_=>true
 | k+1,i=>q1q g ls i && allG g ls k (i+1)
theorem g0a {g:TGram} {ls:List TLine} {i:Nat} (h:i<ls.length):allG g ls (ls.length - i) i=(q1q g ls i && allG g ls (ls.length - (i+1)) (i+1)):=by
 rw[show ls.length - i=(ls.length - (i+1))+1 by omega,allG]
theorem b0c {g:TGram} {ls:List TLine} {i:Nat} (h: ¬i<ls.length):allG g ls (ls.length - i) i=true:=by
 rw[show ls.length - i=0 by omega,allG]
noncomputable def u0n (g:TGram) (s:TStore):Bool:=decide (y09 g=0) && (inr s.cap 1 16 && (decide (s.lines.length≤s.cap) && allG g s.lines s.lines.length 0))
theorem f0p {g:TGram} {ls:List TLine} {i:Nat} (h:i<ls.length):q1q g ls i=(decide (s0v g ls[i].frm ls[i].letter=some ls[i].too) && decide (x0l (pL ls[i].frm ls[i].letter) (ls.take i) 0 = -1)):=by
 simp[q1q,h]
theorem m1c (l:TLine):pL l.frm l.letter l=true:=by simp[pL]
theorem r1g {p:TLine→Bool} {ls:List TLine}:(0≤x0l p ls 0)↔¬x0l p ls 0 = -1:=by
 rcases w1n (p:=p) (ls:=ls) (i:=0) (by omega) with h | h
 ·rw[h]; constructor <;> intro h2 <;> omega
 ·constructor <;> intro h2 <;> omega
def e1w:K:=dc 0x104ec10410057c17c2e5e004785003043104e81041019e02a68638ec6e0a0395f8404a285a8f96e10e0ae0382a167a16a3e5780010a6a16a3e5380469685a8f93e12e031e4a16a3e1408e85a8f91e000428a85a8f830468685a8f8fe000428285a8f8ee0019fa16a3e3783380c77a85a8f8501da16a3e2f800109ca16a3e0c119ba16a3e2780402380d66a85a8f85019a16a3e1f8001098a16a3e0c1197a16a3e5a8178015a04e3bcca0f8254a0ba3e0b8d027ea153a0ba3e078001092a0ba3e0380864682e8fb7d831d0a0ba3e1403e82e8fb500108ea0ba3e0c118da0ba3e1803282e8f8ba3200aa31249a070218402001f0046bc1228801307a2000c82e006a2d9e10e78426a8168b00042128ac1183a2aa431c2a05001a28001080a030469e60010a69401a59230c790502388004288304684204109300020004500018374275c64d11c6c36da00109a0c11991401410000371430841430831c0145039041040003104e810410180985fb44a5943c45d1f9500109647e0c019547e4c3511f9200109347e0c119247e4500103fb2ca3893cbfa0e42e4d0d2a0538bf8c00108d2fe0c018c2fe2ca00a03924c10920196814808104244100013a043042ce92020016a8203040
def l1k:Nat×List RV:=(82,[.t 4])
theorem c_150:z01 PA 150 l1k e1w:=by unfold z01; kernel_rfl
theorem k0h (g:TGram) (s:TStore) (hw:z0q g<2 ^ 31) (hl:x0d g) (hs:y0k s<2 ^ 31):z06 Tryz.prog 150 [.agg (z0b g),.agg (y0h s)] (aB (u0n g s)):=by
 refine Prun c_150 (by simp[l1k]) (by simp) ?_
 (conv in e1w=>reduce); unfold l1k
 have hck:=t0j g hw hl
 obtain⟨cap,ls⟩:=s
 simp only[y0k] at hs
 have hln:=z0a x08 ls
 have hmv:=fun i (h:i<ls.length)=>k0g g ls[i].frm ls[i].letter hw hl (by have:=z0x x08 ls i h; simp only[x08] at this; omega)
 have hmw:=fun i (h:i<ls.length)=>u1f g ls[i].frm ls[i].letter
 have hst:u0n g ⟨cap,ls⟩=(decide (y09 g=0) && (inr cap 1 16 && (decide (ls.length≤cap) && allG g ls ls.length 0))):=rfl
 have hal:=fun i (h:i<ls.length)=>g0a (g:=g) h
 have hae:=fun i (h: ¬i<ls.length)=>b0c (g:=g) h
 have hlg:=fun i (h:i<ls.length)=>f0p (g:=g) h
 generalize u0n g ⟨cap,ls⟩=T at *
 obtain⟨ps⟩:=g
 simp only[z0b] at hck hmv
 simp[z0b,y0h]
 refine z00 hck (by simp) ?_
 by_cases c0:y09 ⟨ps⟩=0
 case neg=>
  simp[c0] at hst
  simp[c0,hst]
 simp[c0]
 refine z00 (z0f _ _ _) (by simp) ?_
 cases c1:inr cap 1 16 with
 | false=>
   simp[c0,c1] at hst
   simp[hst]
 | true=>
 by_cases c2:(ls.length:Int)≤cap
 case neg=>
  have c2':cap<(ls.length:Int):=by omega
  simp[c0,c1,c2] at hst
  simp[c2',hst]
 have c2': ¬cap<(ls.length:Int):=by omega
 simp[c0,c1,c2] at hst
 simp[c2']
 refine z04 (fun n σ=>∃i:Nat,i≤ls.length∧n=ls.length - i∧T=allG ⟨ps⟩ ls (ls.length - i) i∧σ=⟨[(2,.one (.pt 1 2 [] 0 0)),(3,.one (.pt 2 3 [] 0 0)),(5,aI i)],[(2,⟨66,1,[[.ar false 0 1 (ps.map sISS)]]⟩),(3,⟨155,2,[[cI cap,.ar false 0 3 (ls.map y0x)]]⟩)]⟩) (ls.length) ⟨0,by omega,rfl,by simpa using hst,by simp⟩ ?_
 rintro n σ ⟨i,hi,rfl,ht,rfl⟩
 by_cases h:i<ls.length
 case neg=>
  rw[hae i h] at ht
  subst ht
  simp[h]
 rw[hal i h,hlg i h] at ht
 have wi:IntKind.i64.wrap ((i:Int)+1)=i+1:=z08 (by omega) (by omega)
 have hwl:=z0x x08 ls i h
 have hmv:=hmv i h
 have hmw:=hmw i h
 have hsB:=fun b=>h1b b (s0v ⟨ps⟩ ls[i].frm ls[i].letter)
 have htl:=x0h x08 ls i
 obtain⟨l,hl⟩: ∃l,ls[i]=l:=⟨_,rfl⟩
 rw[hl] at ht hwl hmv hmw hsB
 obtain⟨l1,l2,l3⟩:=l
 simp only at hmv hmw hsB ht
 simp only[x08] at hwl
 generalize hAll:allG ⟨ps⟩ ls (ls.length - (i+1)) (i+1)=R at *
 have hfd:=k0i (ls.take i) l1 l2 (by omega)
 have hneg:=r1g (p:=pL l1 l2) (ls:=ls.take i)
 generalize hF:x0l (pL l1 l2) (ls.take i) 0=F at *
 generalize s0v ⟨ps⟩ l1 l2=o at *
 have hss:=q0c (o.getD []) l3 (by omega)
 simp[h,hl,y0x]
 refine CallsA.mono hmv ?_
 rintro r H ⟨rfl,b,rfl⟩
 refine⟨rfl,by simp,?_⟩
 have hn1:(i:Int)≤ls.length:=by omega
 cases o with
 | none=>
   simp at ht
   simp[setB,k0m,ht]
 | some S=>
   simp only[Option.getD_some,Option.some.injEq] at hss ht
   by_cases c3:S=l3
   case neg=>
    simp[c3] at ht
    cases b <;> simp[setB,h,hl,y0x] <;> refine⟨_,by simp,hss,?_⟩ <;> simp[c3,ht]
   simp only[c3,decide_true,Bool.true_and] at ht hss
   have hsh:z0i ((ls.map y0x).take i)=(ls.map y0x).take i:=by rw[← List.map_take,x18]
   rw[List.map_take] at hfd
   cases b <;> simp[setB,h,hl,y0x,c3] <;> refine⟨_,by simp,hss,?_⟩ <;> simp[h,hl,y0x,hn1,hi,hsh] <;> refine⟨_,by simp,hfd,?_⟩
   all_goals
    by_cases c4:F = -1
    ·have c4': ¬0≤F:=by omega
     simp[c4] at ht
     simp[c4']
     exact⟨ls.length - (i+1),by omega,i+1,by omega,rfl,by rw[ht,hAll],by rw[wi]; simp[y0x]⟩
    ·have c4':0≤F:=hneg.2 c4
     simp[c4] at ht
     simp[c4',ht]
def d13:K:=dc 0x413b041040600e004280b9600102043104e8104103708fa36eef2b5d0c10ea07a3e1403681e8fb3c430eba853281e8fb200108ba07a3e18118aa07a3ec000422681e8f860062281e8f87a2e006a2dee82ac245a00a3eae90aaa85128028faa001083a00a3e182182a00a3e1c0068028f80a2702798998801204022504790195d04c91d00c7630238a078392816284004284604681f00109f18019e0810422c101c1800cbf056811828a80430000028a80430c376b49c6c10c26d85831da6001810011400060d908065760d1010400370c20d85d60c2147005600e405d60d65400425430461010000c413a041040502513ecd29240f11337e44004248df8300644df8f0d037e3800423cdf8304638df8d30030b24b8390b92835a814a24004224300630100013a043042ce92020016a8203040
def l1r:Nat×List RV:=(57,[.t 4])
theorem c_157:z01 PA 157 l1r d13:=by unfold z01; kernel_rfl
theorem v1i (g:TGram) (s:TStore) (hc:y09 g=0) (hw:z0q g<2 ^ 31) (hls:p0l s) (hs:y0k s<2 ^ 31):z06 Tryz.prog 157 [.agg (z0b g),.agg (y0h s)] (aB (u0n g s)):=by
 refine Prun c_157 (by simp[l1r]) (by simp) ?_
 (conv in d13=>reduce); unfold l1r
 have hg:=j01 hc
 have hlo:=fun f x=>r1y s f x hs
 obtain⟨cap,ls⟩:=s
 simp only[y0k] at hs
 simp only[p0l] at hls
 have hln:=z0a x08 ls
 have hmv:=fun i (h:i<ls.length)=>v1h g ls[i].frm ls[i].letter hg hw (hls.2 i h).1 (by have:=z0x x08 ls i h; simp only[x08] at this; omega)
 have hmw:=fun i (h:i<ls.length)=>u1f g ls[i].frm ls[i].letter
 have hmo: ∀f x,s0v g f x=q07 g f x:=fun f x=>by simp[s0v,hc]
 have hst:u0n g ⟨cap,ls⟩=(inr cap 1 16 && (decide (ls.length≤cap) && allG g ls ls.length 0)):=by simp[u0n,hc]
 have hal:=fun i (h:i<ls.length)=>g0a (g:=g) h
 have hae:=fun i (h: ¬i<ls.length)=>b0c (g:=g) h
 have hlg:=fun i (h:i<ls.length)=>f0p (g:=g) h
 generalize u0n g ⟨cap,ls⟩=T at *
 obtain⟨ps⟩:=g
 simp only[z0b] at hmv
 simp only[hmo] at hmw hlg
 simp only[y0h] at hlo
 simp[z0b,y0h]
 refine z00 (z0n _ _ _) (by simp) ?_
 cases c1:inr cap 1 16 with
 | false=>
   simp[c1] at hst
   simp[hst]
 | true=>
 by_cases c2:(ls.length:Int)≤cap
 case neg=>
  have c2':cap<(ls.length:Int):=by omega
  simp[c1,c2] at hst
  simp[c2',hst]
 have c2': ¬cap<(ls.length:Int):=by omega
 simp[c1,c2] at hst
 simp[c2']
 refine z04 (fun n σ=>∃i:Nat,i≤ls.length∧n=ls.length - i∧T=allG ⟨ps⟩ ls (ls.length - i) i∧σ=⟨[(2,.one (.pt 1 2 [] 0 0)),(3,.one (.pt 2 3 [] 0 0)),(22,.one (.ar false 0 3 (ls.map y0x))),(23,aI ls.length),(24,aI i)],[(2,⟨66,1,[[.ar false 0 1 (ps.map sISS)]]⟩),(3,⟨155,2,[[cI cap,.ar false 0 3 (ls.map y0x)]]⟩)]⟩) (ls.length) ⟨0,by omega,rfl,by simpa using hst,by simp⟩ ?_
 rintro n σ ⟨i,hi,rfl,ht,rfl⟩
 by_cases h:i<ls.length
 case neg=>
  rw[hae i h] at ht
  subst ht
  simp[h]
 rw[hal i h,hlg i h] at ht
 have wi:IntKind.i64.wrap ((i:Int)+1)=i+1:=z08 (by omega) (by omega)
 have hwl:=z0x x08 ls i h
 have hmv:=hmv i h
 have hmw:=hmw i h
 have hff:=j05 (p:=pL ls[i].frm ls[i].letter) (ls:=ls) (k:=i) (i:=0) (by omega) h (m1c _)
 obtain⟨l,hl⟩: ∃l,ls[i]=l:=⟨_,rfl⟩
 rw[hl] at ht hwl hmv hmw hff
 obtain⟨l1,l2,l3⟩:=l
 simp only at hmv hmw ht hff
 simp only[x08] at hwl
 have hlo:=hlo l1 l2
 generalize hAll:allG ⟨ps⟩ ls (ls.length - (i+1)) (i+1)=R at *
 have hff:x0l (pL l1 l2) ls 0=0+(i:Int)↔x0l (pL l1 l2) (ls.take i) 0 = -1:=hff
 have ht:T=(decide (q07 ⟨ps⟩ l1 l2=some l3) && decide (x0l (pL l1 l2) (ls.take i) 0 = -1) && R):=ht
 rw[show decide (x0l (pL l1 l2) (ls.take i) 0 = -1)=decide (x0l (pL l1 l2) ls 0=(i:Int)) from decide_eq_decide.2 (by rw[← hff,Int.zero_add])] at ht
 generalize hF:x0l (pL l1 l2) ls 0=F at *
 generalize q07 ⟨ps⟩ l1 l2=o at *
 have hss:=q0a (o.getD []) l3 (by omega)
 simp[h,hl,y0x]
 refine z00 hmv (fun _=>e0j _) ?_
 cases o with
 | none=>
   simp at ht
   simp[setR,k0m,ht]
 | some S=>
   simp only[Option.getD_some,Option.some.injEq] at hss ht
   simp[setR]
   refine z00 hss (by simp) ?_
   by_cases c3:S=l3
   case neg=>
    simp[c3] at ht
    simp[c3,ht]
   simp only[c3,decide_true,Bool.true_and] at ht
   simp[c3]
   refine z00 hlo (by simp) ?_
   by_cases c4:F=(i:Int)
   ·simp[c4] at ht
    simp[c4]
    exact⟨ls.length - (i+1),by omega,i+1,by omega,rfl,by rw[ht,hAll],by rw[wi]; simp[y0x]⟩
   ·simp[c4] at ht
    simp[c4,ht]
def f1z:K:=dc 0x410b04be8a1ca2480b5a45287f430420891fd081042207f47180185063a0514204108804013a043042ce92020016a8203040
def m1n:Nat×List RV:=(12,[.t 4])
theorem c_105:z01 PA 105 m1n f1z:=by unfold z01; kernel_rfl
theorem k07 (g:TGram) (s:TStore) (hw:z0q g<2 ^ 31) (hl:x0d g) (hls:p0l s) (hs:y0k s<2 ^ 31):z06 Tryz.prog 105 [.agg (z0b g),.agg (y0h s)] (aB (u0n g s)):=by
 refine Prun c_105 (by simp[m1n]) (by simp) ?_
 (conv in f1z=>reduce); unfold m1n
 have hgd:=b0w g hw hl
 have hso:=fun h=>v1i g s h hw hls hs
 have hst: ¬y09 g=0→u0n g s=false:=fun h=>by simp[u0n,h]
 obtain⟨ps⟩:=g
 obtain⟨cap,ls⟩:=s
 simp only[z0b] at hgd hso
 simp only[y0h] at hso
 simp[z0b,y0h]
 refine z00 hgd (by simp) ?_
 by_cases c:y09 ⟨ps⟩=0
 ·have hso:=hso c
  simp[c]
  refine z00 hso (by simp) ?_
  simp
 ·simp[c,hst c]
end
end Go.Am
