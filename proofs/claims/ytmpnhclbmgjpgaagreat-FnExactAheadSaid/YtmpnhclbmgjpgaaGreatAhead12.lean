/- Text 12 for FnExactAhead. -/
import Derived.Test.YtmpnhclbmgjpgaaGreatAhead11
set_option linter.unusedVariables false
set_option linter.unusedSimpArgs false
namespace Go.Am
open Go.Proofs
set_option maxHeartbeats 4000000
set_option maxRecDepth 100000
attribute [-simp] BitVec.toNat_or BitVec.toNat_and BitVec.toNat_ofInt
section
attribute [-simp] z03 z05 z02
def c1g:K:=dc 0x40e006000008100b7c07c2e4b00408149e01e0b948010204301d05d71918471b08203c2046da0d1684019000181602617582e2a1570005870030401d50555000425124011c30400c50021834c2013452344041000dc51001124502ca2440081c215203901140340500304014f0443413ce00108e2c904734b00504004500018330200c28b344041000dc008b2890041c014b03900a24324800108804018404000300203c041040
def j12:Nat×List RV:=(33,[.t 3])
theorem c_223:z01 PA 223 j12 c1g:=by unfold z01; kernel_rfl
set_option maxRecDepth 200000 in
theorem i0z (ps:List (List (List Int))) (f:Nat) (hn:ps.length≤20) (hf:f<2 ^ ps.length) (hw:z0q ⟨ps⟩<2 ^ 31) (hl:x0d ⟨ps⟩) :
 z06 Tryz.prog 223 [aU f,.one (.ps [.ar false 0 1 (ps.map sISS)])] (aU (z0h (setP w04) 0 ps f)):=by
 refine Prun c_223 (by simp[j12]) (by simp) ?_
 (conv in c1g=>reduce); unfold j12
 simp only[z0q] at hw
 simp only[x0d] at hl
 have hln:=z0a (wL (wL w0)) ps
 generalize hT:z0h (setP w04) 0 ps f=T
 simp
 refine z04 (fun n σ=>∃(i f:Nat),i≤ps.length∧n=ps.length - i∧f<2 ^ ps.length∧z0h (setP w04) i (ps.drop i) f=T∧σ=⟨[(0,aU f),(9,.one (.ar false 0 1 (ps.map sISS))),(10,aI ps.length),(11,aI i)],[]⟩) (ps.length) ⟨0,f,by omega,rfl,hf,by simpa using hT,by simp⟩ ?_
 rintro n σ ⟨i,f,hi,rfl,hf,ht,rfl⟩
 have hf20: ∀{f:Nat},f<2 ^ ps.length→f<2 ^ 20:=fun h=>Nat.lt_of_lt_of_le h (Nat.pow_le_pow_right (by omega) hn)
 by_cases h:i<ps.length
 case neg=>
  rw[w0w h] at ht
  simp[h,ht]
 rw[w07 h] at ht
 have hwa:=z0x (wL (wL w0)) ps i h
 have wi:IntKind.i64.wrap ((i:Int)+1)=i+1:=z08 (by omega) (by omega)
 have hli:=hl.2 i h
 generalize hal:ps[i]=al at *
 have hla:=z0a (wL w0) al
 simp[h,hal,sISS]
 generalize hT2:setP w04 i al f=T2 at ht
 have hT2f:T2<2 ^ ps.length:=by rw[← hT2]; exact t1w h hf al
 refine z04 (fun n σ=>∃(j f:Nat),j≤al.length∧n=al.length - j∧f<2 ^ ps.length∧setP w04 i (al.drop j) f=T2∧σ=⟨[(0,aU f),(4,aI i),(9,.one (.ar false 0 1 (ps.map sISS))),(10,aI ps.length),(11,aI i),(16,.one (.ar false 0 1 (al.map sIS))),(17,aI al.length),(18,aI j)],[]⟩) (al.length) ⟨0,f,by omega,rfl,hf,by simpa using hT2,by simp⟩ ?_
 rintro n σ ⟨j,f,hj,rfl,hf,ht2,rfl⟩
 by_cases h2:j<al.length
 case neg=>
  rw[n0w h2] at ht2
  subst ht2
  simp[h2]
  exact⟨ps.length - (i+1),by omega,i+1,by omega,rfl,f,hf,ht,by rw[wi]; simp⟩
 rw[o03 h2] at ht2
 have hwr:=z0x (wL w0) al j h2
 have wj:IntKind.i64.wrap ((j:Int)+1)=j+1:=z08 (by omega) (by omega)
 have hlj:=hli.2 j h2
 generalize hrw:al[j]=row at *
 have hlr:=z0a w0 row
 simp[h2,hrw,sIS]
 refine z00 (k09 row f (hf20 hf) (hlj)) (by simp) ?_
 cases c:w04 f row with
 | false=>
   rw[c] at ht2
   simp
   exact⟨al.length - (j+1),by omega,j+1,by omega,rfl,f,hf,by simpa using ht2,by rw[wj]; simp⟩
 | true=>
   rw[c] at ht2
   have hor:=orK (hf20 hf) (show i<20 by omega)
   have n64: ¬IntKind.u64.wrap (i:Int)<0:=by rw[v0z (by omega) (by omega)]; omega
   simp[x0r,n64, -BitVec.ofInt_natCast,hor]
   exact⟨al.length - (j+1),by omega,j+1,by omega,rfl,f ||| 2 ^ i,q08 hf h,by simpa using ht2,by rw[wj]; simp⟩
theorem l08 {f i:Nat} {row:List Int} (h:i<row.length):t0m f (row.drop i)=t0m (if 100≤row[i] then f ||| 2 ^ prt row[i] else f) (row.drop (i+1)):=by
 unfold t0m; rw[v0o h]
theorem j0k {f i:Nat} {row:List Int} (h: ¬i<row.length):t0m f (row.drop i)=f:=by
 unfold t0m; rw[t01 h]
theorem orX {f:Nat} {x:Int} (hf:f<2 ^ 20) (hk:100≤x) (hk2:prt x<20):IntKind.u32.wrap ((BitVec.ofInt IntKind.u32.bits (f:Int) ||| BitVec.ofInt IntKind.u32.bits (IntKind.u32.wrap (2 ^ min (IntKind.u64.wrap (x - 100)).toNat IntKind.u32.bits))).toNat:Int)=((f ||| 2 ^ prt x:Nat):Int):=by
 have:=orK (k:=prt x) hf hk2
 rwa [show ((prt x:Nat):Int)=x - 100 by unfold prt at *; omega] at this
def c1i:K:=dc 0x103bc11e800008100fb801a80b93c010205ab401680b9680102060b001280b980010204302b043a2a986102a2908203c204068a03440a20ab99c11272409800070650a582ae644049090020402630638800428a07811c30401450041838420217e0344041000dc71401207de69960f38d00a1c416003901f7837870030401dd05d70004271a6011c30400c50021836c201b65a344041000dc500369960f38d0071c215a0390196036050030400c11970975895955029291551005000040400054c111105348004248f3411d13c01410011400060d008040e3cd1010400370023ce3401070053c0e4038d0cd30004230100610100000b04b08203c28610a0000c100300203c041040
def j14:Nat×List RV:=(48,[.t 3])
theorem c_225:z01 PA 225 j14 c1i:=by unfold z01; kernel_rfl
set_option maxRecDepth 200000 in
theorem f02 (ps:List (List (List Int))) (f:Nat) (h0:0<ps.length) (hn:ps.length≤20) (hf:f<2 ^ ps.length) (hw:z0q ⟨ps⟩<2 ^ 31) (hs:i03 ps.length ps) :
 z06 Tryz.prog 225 [aU f,.one (.ps [.ar false 0 1 (ps.map sISS)])] (aU (z0h rchP 0 ps (f ||| 1))):=by
 refine Prun c_225 (by simp[j14]) (by simp) ?_
 (conv in c1i=>reduce); unfold j14
 simp only[z0q] at hw
 have hln:=z0a (wL (wL w0)) ps
 have hf20: ∀{f:Nat},f<2 ^ ps.length→f<2 ^ 20:=fun h=>Nat.lt_of_lt_of_le h (Nat.pow_le_pow_right (by omega) hn)
 have hor1:=orU (a:=f) (b:=1) (Nat.lt_of_lt_of_le (hf20 hf) (by omega)) (by omega)
 have hf1:f ||| 1<2 ^ ps.length:=q08 (x:=0) hf h0
 generalize hT:z0h rchP 0 ps (f ||| 1)=T
 simp[hor1]
 generalize f ||| 1=f at *
 refine z04 (fun n σ=>∃(i f:Nat),i≤ps.length∧n=ps.length - i∧f<2 ^ ps.length∧z0h rchP i (ps.drop i) f=T∧σ=⟨[(0,aU f),(13,.one (.ar false 0 1 (ps.map sISS))),(14,aI ps.length),(15,aI i)],[]⟩) (ps.length) ⟨0,f,by omega,rfl,hf1,by simpa using hT,by simp⟩ ?_
 rintro n σ ⟨i,f,hi,rfl,hf,ht,rfl⟩
 by_cases h:i<ps.length
 case neg=>
  rw[w0w h] at ht
  simp[h,ht]
 rw[w07 h] at ht
 have hwa:=z0x (wL (wL w0)) ps i h
 have wi:IntKind.i64.wrap ((i:Int)+1)=i+1:=z08 (by omega) (by omega)
 have hsa:=hs ps[i] (List.getElem_mem h)
 generalize hal:ps[i]=al at *
 have hla:=z0a (wL w0) al
 simp[h,hal,sISS]
 refine z00 (g0x f i (Nat.lt_of_lt_of_le (hf20 hf) (by omega)) (by omega) (by omega)) (by simp) ?_
 cases c:f.testBit i with
 | false=>
   simp[c]
   exact⟨ps.length - (i+1),by omega,i+1,by omega,rfl,f,hf,by simpa [rchP,c] using ht,by rw[wi]; simp⟩
 | true=>
 simp[c]
 generalize hT2:rchP i al f=T2 at ht
 have hT2b:al.foldl t0m f=T2:=by rw[← hT2]; simp[rchP,c]
 clear hT2
 refine z04 (fun n σ=>∃(j f:Nat),j≤al.length∧n=al.length - j∧f<2 ^ ps.length∧(al.drop j).foldl t0m f=T2∧σ=⟨[(0,aU f),(13,.one (.ar false 0 1 (ps.map sISS))),(14,aI ps.length),(15,aI i),(24,.one (.ar false 0 1 (al.map sIS))),(25,aI al.length),(26,aI j)],[]⟩) (al.length) ⟨0,f,by omega,rfl,hf,by simpa using hT2b,by simp⟩ ?_
 rintro n σ ⟨j,f,hj,rfl,hf,ht2,rfl⟩
 by_cases h2:j<al.length
 case neg=>
  rw[t01 h2] at ht2
  subst ht2
  simp[h2]
  exact⟨ps.length - (i+1),by omega,i+1,by omega,rfl,f,hf,ht,by rw[wi]; simp⟩
 rw[v0o h2] at ht2
 have hwr:=z0x (wL w0) al j h2
 have wj:IntKind.i64.wrap ((j:Int)+1)=j+1:=z08 (by omega) (by omega)
 have hsr:=hsa al[j] (List.getElem_mem h2)
 generalize hrw:al[j]=row at *
 have hlr:=z0a w0 row
 simp[h2,hrw,sIS]
 generalize hT3:t0m f row=T3 at ht2
 refine z04 (fun n σ=>∃(k f:Nat),k≤row.length∧n=row.length - k∧f<2 ^ ps.length∧t0m f (row.drop k)=T3∧σ=⟨[(0,aU f),(13,.one (.ar false 0 1 (ps.map sISS))),(14,aI ps.length),(15,aI i),(24,.one (.ar false 0 1 (al.map sIS))),(25,aI al.length),(26,aI j),(30,.one (.ar false 0 1 (row.map rI))),(31,aI row.length),(32,aI k)],[]⟩) (row.length) ⟨0,f,by omega,rfl,hf,by simpa using hT3,by simp⟩ ?_
 rintro n σ ⟨k,f,hk,rfl,hf,ht3,rfl⟩
 by_cases h3:k<row.length
 case neg=>
  rw[j0k h3] at ht3
  subst ht3
  simp[h3]
  exact⟨al.length - (j+1),by omega,j+1,by omega,rfl,f,hf,ht2,by rw[wj]; simp⟩
 rw[l08 h3] at ht3
 have wk:IntKind.i64.wrap ((k:Int)+1)=k+1:=z08 (by omega) (by omega)
 have hsx:=hsr row[k] (List.getElem_mem h3)
 generalize hx:row[k]=x at *
 simp[h3,hx]
 by_cases c2:100≤x
 case neg=>
  rw[if_neg c2] at ht3
  simp[c2]
  exact⟨row.length - (k+1),by omega,k+1,by omega,rfl,f,hf,ht3,by rw[wk]; simp⟩
 rw[if_pos c2] at ht3
 have hpx:=hsx c2
 have wx:IntKind.i64.wrap (x - 100)=x - 100:=z08 (by omega) (by unfold prt at hpx; omega)
 have hor:=orX (hf20 hf) c2 (by omega)
 have n64: ¬IntKind.u64.wrap (x - 100)<0:=by rw[v0z (by omega) (by unfold prt at hpx; omega)]; omega
 simp[c2,wx,x0r,n64, -BitVec.ofInt_natCast,hor]
 exact⟨row.length - (k+1),by omega,k+1,by omega,rfl,f ||| 2 ^ prt x,q08 hf hpx,ht3,by rw[wk]; simp⟩
end
section
attribute [-simp] z03 z05 z02
theorem Part.congr {ps:w03} {i w w' S W:List TConf} (h:Part ps i w S W) (hw: ∀x,x∈w↔x∈w'):Part ps i w' S W where
 toSnd:=h.toSnd
 ls:=h.ls
 lw:=h.lw
 lr:=h.lr
 ini:=fun x hx=>by rw[← hw]; exact h.ini x hx
 kid:=fun x hx k hk=>by rw[← hw]; exact h.kid x hx k hk
 rwt:=fun x hx=>h.rwt x ((hw x).2 hx)
def Clo (ps:w03) (init wait S W:List TConf) (much:Bool):Prop:=(much=false∧Part ps init wait S W)∨(much=true∧Much ps init S W)
theorem w09 {g:TGram} (hg:y02 g=true) {k:Nat} (hk:k<g.parts.length) {al:List Int} (ha:al∈g.parts[k]):al.length≤8∧al.all (y0o g.parts.length)=true:=by
 simp only[y02,Bool.and_eq_true,List.all_eq_true] at hg
 have h1:=hg.2 _ (List.getElem_mem hk)
 simp only[v0b,Bool.and_eq_true,List.all_eq_true] at h1
 have h2:=h1.2 _ ha
 simp only[p02,Bool.and_eq_true,decide_eq_true_eq] at h2
 exact h2
theorem u06 {g:TGram} (hg:y02 g=true) {k:Nat} (hk:k<g.parts.length):g.parts[k].length≤8:=by
 simp only[y02,Bool.and_eq_true,List.all_eq_true] at hg
 have h1:=hg.2 _ (List.getElem_mem hk)
 simp only[v0b,Bool.and_eq_true,z0l] at h1
 omega
theorem n0n {g:TGram} (hg:y02 g=true):1≤g.parts.length∧g.parts.length≤20:=by
 simp only[y02,Bool.and_eq_true,z0l] at hg
 omega
theorem h0u {n:Nat} {x:Int} (h:y0o n x=true) (hx:100≤x):prt x<n∧((prt x:Nat):Int)=x - 100:=by
 simp only[y0o,Bool.or_eq_true,z0l] at h
 unfold prt
 omega
theorem o1g {n:Nat} {x:Int} (hn:n≤20) (h:y0o n x=true):0≤x∧x<120:=by
 simp only[y0o,Bool.or_eq_true,z0l] at h
 omega
theorem u15 {g:TGram} (hg:y02 g=true) {c k:TConf} (hc:c.row.all (y0o g.parts.length)=true) (ho:opn c=true) (hk:k∈kids g.parts c):k.row.all (y0o g.parts.length)=true∧k.row.length≤c.row.length+7:=by
 obtain⟨a,row⟩:=c
 cases row with
 | nil=>simp[opn] at ho
 | cons x r=>
   simp only[opn,decide_eq_true_eq] at ho
   simp only[List.all_cons,Bool.and_eq_true] at hc
   obtain⟨h1,h2⟩:=h0u hc.1 ho
   simp only[kids,List.mem_map] at hk
   obtain⟨al,ha,rfl⟩:=hk
   rw[List.getD_eq_getElem?_getD,List.getElem?_eq_getElem h1,Option.getD_some] at ha
   obtain⟨h3,h4⟩:=w09 hg h1 ha
   refine⟨?_,by simp; omega⟩
   rw[List.all_append,h4,hc.2]; rfl
theorem Rch.ok {g:TGram} (hg:y02 g=true) {init:List TConf} (hi: ∀c∈init,c.row.all (y0o g.parts.length)=true) {c:TConf} (hc:Rch g.parts init c):c.row.all (y0o g.parts.length)=true:=by
 induction hc with
 | base h=>exact hi _ h
 | step _ ho hk ih=>exact (u15 hg ih ho hk).1
theorem f0i {ps:w03} {x:Int} {r:List Int} {a:Int} (h:prt x<ps.length) (hx:100≤x):kids ps ⟨a,x :: r⟩=ps[prt x].map fun al=>⟨a,al ++ r⟩:=by
 simp[kids,h]
theorem Part.noMuch {ps:w03} {i w S W:List TConf} {c:TConf} (h:Part ps i (w ++ [c]) S W) (hl:200<c.row.length):Much ps i S W:= .inl ⟨c,h.rwt c (by simp),hl⟩
theorem Part.muchS {ps:w03} {i w S W:List TConf} {c:TConf} (h:Part ps i (w ++ [c]) S W) (ho:opn c=false) (hl:30<(putC S c).length):Much ps i (putC S c) W:= .inr ⟨h.toSnd.putS (h.rwt c (by simp)) ho,.inl hl⟩
theorem Part.muchW {ps:w03} {i w S W:List TConf} {c:TConf} (h:Part ps i (w ++ [c]) S W) (ho:opn c=true) (hl:200<(putC W c).length):Much ps i S (putC W c):= .inr ⟨h.toSnd.putW (h.rwt c (by simp)) ho,.inr hl⟩
theorem h0k {l:List TConf} {c:TConf} (h:c∈l):putC l c=l:=by unfold putC; rw[if_pos h]
theorem a0n {l:List TConf} {c:TConf} (h:c ∉ l):(putC l c).length=l.length+1:=by rw[a0m,if_neg h]
end
section
attribute [-simp] z03 z05 z02
def lbC (l:List TConf) (x:TConf):Nat:=l.findIdx (fun y=>decide (0≤ordC y x))
theorem o11 (l:List TConf) (x:TConf):lbC l x≤l.length:=List.findIdx_le_length
theorem c0a {l:List TConf} {x:TConf} (hs:srtC l) {h:Nat} (hl:h<l.length):ordC l[h] x<0↔h<lbC l x:=by
 constructor
 ·intro hc
  rcases Nat.lt_or_ge h (lbC l x) with h1 | h1
  ·exact h1
  ·have hq:lbC l x<l.length:=by omega
   have h2:decide (0≤ordC l[lbC l x] x)=true:=List.findIdx_getElem (p:=fun y=>decide (0≤ordC y x)) (xs:=l) (w:=hq)
   have h2:=of_decide_eq_true h2
   by_cases e:lbC l x=h
   ·simp only[e] at h2; omega
   ·have h3:ordC l[lbC l x] l[h]<0:=List.pairwise_iff_getElem.1 hs _ _ hq hl (by omega)
    have:=o0h h3 hc
    omega
 ·intro h1
  have:=List.not_of_lt_findIdx (p:=fun y=>decide (0≤ordC y x)) (xs:=l) h1
  simp at this
  omega
theorem n1z {l:List TConf} {x:TConf} (hs:srtC l):x∈l↔∃h:lbC l x<l.length,ordC l[lbC l x] x=0:=by
 constructor
 ·intro hx
  obtain⟨k,hk,rfl⟩:=List.mem_iff_getElem.1 hx
  have h0:ordC l[k] l[k]=0:=u0g.2 rfl
  have h1: ¬k<lbC l l[k]:=fun h=>by have:=(c0a hs hk).2 h; omega
  have hq:lbC l l[k]<l.length:=by omega
  refine⟨hq,?_⟩
  have h2: ¬ordC l[lbC l l[k]] l[k]<0:=fun h=>by have:=(c0a hs hq).1 h; omega
  by_cases e:lbC l l[k]=k
  ·simp only[e]; exact h0
  ·have h3:ordC l[lbC l l[k]] l[k]<0:=List.pairwise_iff_getElem.1 hs _ _ hq hk (by omega)
   omega
 ·rintro⟨h,h0⟩
  rw[← u0g.1 h0]
  exact List.getElem_mem h
theorem a1g {l:List TConf} {x:TConf} (hx:x ∉ l):lbC l x=atC l x:=by
 unfold lbC atC
 induction l with
 | nil=>rfl
 | cons y r ih=>
   rw[List.findIdx_cons,List.findIdx_cons,ih fun h=>hx (List.mem_cons_of_mem _ h)]
   have:ordC y x≠0:=fun e=>hx (by rw[← u0g.1 e]; exact List.mem_cons_self ..)
   by_cases c:0<ordC y x
   ·simp[c,show 0≤ordC y x by omega]
   ·simp[c,show ¬0≤ordC y x by omega]
theorem half {a:Int} (ha:0≤a):a.fdiv (2 ^ min 1 IntKind.u64.bits)=a / 2:=by
 show a.fdiv (2 ^ min 1 64)=_
 rw[show min 1 64=1 from rfl,Int.pow_succ,Int.pow_zero,Int.one_mul,Int.fdiv_eq_ediv_of_nonneg _ (by omega)]
def b1a:K:=dc 0x41f00468c1228eaf9ca039b8b107a27f6db02a261a89fd1010821689fdac10821289fdaa90870e89fd2400a89fd0000689fd0800289fd9e60269643449480242408c90100002002a20622c00812610610b98001202c00c17c27c0e5e34479d70262674404209c6c10826da6421da2c064001808020800800b5c15d60115820c0f152445540d15134801132804890070400450060d109140f34440a00f2400c10000b70770372ca24810200a28920408018700500a381240e4138800304020d04d3033000030401fa0460390440428a8203040
def j1w:Nat×List RV:=(49,[.t 6,.t 7])
theorem c_263:z01 PA 263 j1w b1a:=by unfold z01; kernel_rfl
theorem q11 (xs:List TConf) (c:TConf) (hs:srtC xs) (hx:xs.length<2 ^ 30) (hw: ∀x∈xs,y0f x<2 ^ 40):z06 Tryz.prog 263 [.one (.ar false 0 2 (xs.map z0k)),.agg (z0k c),.one (.fn 264 [])] (.tup [(false,[cI (lbC xs c)]),(false,[.bool (decide (c∈xs))])]):=by
 refine Prun c_263 (by simp[j1w]) (by simp) ?_
 (conv in b1a=>reduce); unfold j1w
 have hok:=x1k 264 (by kernel_rfl)
 have hcmp: ∀i (h:i<xs.length),_:=fun i h=>t02 xs[i] c (hw _ (List.getElem_mem h))
 have hle:=o11 xs c
 have hiff:=@c0a xs c hs
 have hmem:=n1z (x:=c) hs
 obtain⟨c1,c2⟩:=c
 simp only[z0k] at hcmp
 simp[z0k]
 generalize hq:lbC xs ⟨c1,c2⟩=q at *
 refine z04 (fun n σ=>∃i j:Nat,i≤q∧q≤j∧j≤xs.length∧n=j - i∧σ=⟨[(0,.one (.ar false 0 2 (xs.map z0k))),(2,.one (.fn 264 [])),(4,.one (.pt 2 4 [] 0 0)),(8,aI xs.length),(9,aI i),(10,aI j)],[(4,⟨74,2,[[cI c1,.ar false 0 1 (c2.map rI)]]⟩)]⟩) (xs.length) ⟨0,xs.length,by omega,by omega,by omega,rfl,by simp⟩ ?_
 rintro n σ ⟨i,j,hi,hj,hjn,rfl,rfl⟩
 by_cases h:i<j
 ·have h':(i:Int)<j:=by omega
  have w1:IntKind.i64.wrap ((i:Int)+j)=i+j:=z08 (by omega) (by omega)
  have w2:IntKind.u64.wrap ((i:Int)+j)=i+j:=by
   have e:IntKind.u64.wrap ((i:Int)+j)=((i:Int)+j) % 18446744073709551616:=by simp[IntKind.wrap,IntKind.bits,IntKind.signed]
   rw[e]; omega
  have hh:=half (a:=(i:Int)+j) (by omega)
  have w3:IntKind.i64.wrap (((i:Int)+j) / 2)=(((i+j) / 2:Nat):Int):=by rw[z08 (by omega) (by omega)]; omega
  have hm:(i+j) / 2<xs.length:=by omega
  have hm1:i≤(i+j) / 2:=by omega
  have hm2:(i+j) / 2<j:=by omega
  have wm:IntKind.i64.wrap ((((i+j) / 2:Nat):Int)+1)=(((i+j) / 2:Nat):Int)+1:=z08 (by omega) (by omega)
  have hc:=hcmp _ hm
  have hif:=hiff hm
  have hnn: ¬(1:Int)<0:=by omega
  generalize (i+j) / 2=m at *
  rcases ea:xs[m] with⟨x1,x2⟩
  rw[ea] at hc hif
  simp[h',w1,w2,x0r,hnn,hh,w3,hm,ea,z0k]
  refine⟨hok,_,by simp,hc,?_⟩
  by_cases d:ordC ⟨x1,x2⟩ ⟨c1,c2⟩<0
  ·have:=hif.1 d
   simp[d,wm]
   exact⟨j - (m+1),by omega,m+1,by omega,j,hj,hjn,rfl,by omega,rfl⟩
  ·have hd: ¬m<q:=fun h=>d (hif.2 h)
   simp[d]
   exact⟨m - i,by omega,i,hi,m,by omega,by omega,rfl,rfl,rfl⟩
 ·have h': ¬(i:Int)<j:=by omega
  have:i=q:=by omega
  subst this
  by_cases hlt:i<xs.length
  ·have hc:=hcmp _ hlt
   have hm2:(TConf.mk c1 c2∈xs)↔ordC xs[i] ⟨c1,c2⟩=0:=by
    rw[hmem]
    constructor
    ·rintro⟨_,h⟩
     simpa only[hq] using h
    ·intro h
     exact⟨by omega,by simpa only[hq] using h⟩
   rcases ea:xs[i] with⟨x1,x2⟩
   rw[ea] at hc hm2
   simp[h',hlt,ea,z0k,hok]
   refine z00 hc (by simp) ?_
   simp[hm2]
  ·have hm2: ¬TConf.mk c1 c2∈xs:=by
    rw[hmem]
    rintro⟨h,_⟩
    omega
   simp[h',hlt,hm2]
def c1j:K:=dc 0x105ec11140544d14030e1ad84d20400a2a0f4830420911804000070400c417a0443c13c000304038238700104000734118c04d20130c2003082c02e0ac5f0a2437eb14a0c108224000804017a0440a2a010fc0430428a8203040
def j15:Nat×List RV:=(21,[.t 4,.t 5])
theorem c_226:z01 PA 226 j15 c1j:=by unfold z01; kernel_rfl
theorem b0v (xs:List TConf) (c:TConf) (hs:srtC xs) (hx:xs.length<2 ^ 30) (hw: ∀x∈xs,y0f x<2 ^ 40):z06 Tryz.prog 226 [.one (.ar true 74 2 (xs.map z0k)),.agg (z0k c)] (.tup [(false,[.ar true 74 2 ((putC xs c).map z0k)]),(false,[.bool (!decide (c∈xs))])]):=by
 refine Prun c_226 (by simp[j15]) (by simp) ?_
 (conv in c1j=>reduce); unfold j15
 have hse:=q11 xs c hs hx hw
 have hin:=y13 xs c (lbC xs c) (o11 xs c) (by omega)
 have hput:putC xs c=if c∈xs then xs else xs.take (lbC xs c) ++ [c] ++ xs.drop (lbC xs c):=by
  unfold putC
  by_cases h:c∈xs
  ·rw[if_pos h,if_pos h]
  ·rw[if_neg h,if_neg h,a1g h]
 rw[hput]
 obtain⟨c1,c2⟩:=c
 simp only[z0k] at hse hin
 generalize lbC xs ⟨c1,c2⟩=q at *
 simp[z0k]
 refine z00 hse (by simp) ?_
 by_cases h:TConf.mk c1 c2∈xs
 ·simp[h]
 ·simp[h]
  refine z0c hin (by simp) ?_
  simp[z0k]
  rw[List.take_of_length_le]
  simp
end
section
attribute [-simp] z03 z05 z02
def putR (xs:List TConf) (c:TConf):C:=if c∈xs then .ar false 0 2 (xs.map z0k) else .ar true 74 2 ((putC xs c).map z0k)
theorem o1u {l:List TConf} {x:TConf} (hs:srtC l): ∀j,(hj:j<l.length)→(0<ordC l[j] x↔atC l x≤j):=by
 intro j hj
 constructor
 ·intro hc
  rcases Nat.lt_or_ge j (atC l x) with h1 | h1
  ·have:=List.not_of_lt_findIdx (p:=fun y=>decide (0<ordC y x)) (xs:=l) h1
   simp at this
   omega
  ·exact h1
 ·intro h1
  have hq:atC l x<l.length:=by omega
  have h2:decide (0<ordC l[atC l x] x)=true:=List.findIdx_getElem (p:=fun y=>decide (0<ordC y x)) (xs:=l) (w:=hq)
  have h2:=of_decide_eq_true h2
  by_cases e:atC l x=j
  ·simp only[e] at h2; exact h2
  ·have h3:ordC l[atC l x] l[j]<0:=List.pairwise_iff_getElem.1 hs _ _ hq hj (by omega)
   have h4:=n0s x l[atC l x]
   have h5:=n0s l[j] x
   have:=o0h (a:=x) (b:=l[atC l x]) (c:=l[j]) (by omega) h3
   omega
def e1g:K:=dc 0x104c41268c2d0200a2a0e22802f06e0961e81401a8000168200181008b01128ae30200a2a0e0e8a810028a83c2a29041941002043043000002054068a260080433a60000433c0a270010a70c11a59000429030068c800b00020022206285e0200a2a0e8600407c25a01407c001e0000a2a0f181006441442e5004440600304315d05d180081702700e5b3c46c70020400c411a05a00008101909903960b1181c00810001d705759508fa855830420955010825134821d31804800071802000450001833c23c0e4e404386002040000dc61430051850c010700518d04d0b930110c2c32c00040400052812890c90000c10040a2a010fc0430428a8202040
def l14:Nat×List RV:=(50,[.t 4])
theorem c_130:z01 PC 130 l14 e1g:=by unfold z01; kernel_rfl
theorem p0k (xs:List TConf) (c:TConf) (hs:srtC xs) (hx:xs.length<2 ^ 30) (hw: ∀x∈xs,y0f x<2 ^ 31) (hc:y0f c<2 ^ 31):z06 Tryz.prog 130 [.one (.ar false 0 2 (xs.map z0k)),.agg (z0k c)] (.one (putR xs c)):=by
 refine g1t c_130 (by simp[l14]) (by simp) ?_
 (conv in e1g=>reduce); unfold l14
 have hcmp: ∀i (h:i<xs.length),_:=fun i h=>p0j xs[i] c (by have:=hw _ (List.getElem_mem h); omega)
 have hat:=o1u (x:=c) hs
 have hle:=p1q xs c
 have hmem: ∀i (h:i<xs.length),ordC xs[i] c=0→c∈xs:=fun i h e=>by rw[← u0g.1 e]; exact List.getElem_mem h
 have hnot:(∀j (h:j<xs.length),ordC xs[j] c≠0)→c ∉ xs:=fun hn hm=>by
  obtain⟨j,hj,e⟩:=List.mem_iff_getElem.1 hm
  exact hn j hj (u0g.2 e)
 have hput:c ∉ xs→putC xs c=xs.take (atC xs c) ++ [c] ++ xs.drop (atC xs c):=fun h=>by unfold putC; rw[if_neg h]
 have w1:IntKind.i64.wrap ((xs.length:Int) - 1)=xs.length - 1:=z08 (by omega) (by omega)
 obtain⟨c1,c2⟩:=c
 simp only[z0k] at hcmp
 simp only[y0f,v09] at hc
 generalize hq:atC xs ⟨c1,c2⟩=q at *
 simp[z0k,w1]
 refine z04 (fun n σ=>∃i a:Nat,i≤xs.length∧n=i∧a=max q i∧(∀j (h:j<xs.length),i≤j→ordC xs[j] ⟨c1,c2⟩≠0)∧σ=⟨[(0,.one (.ar false 0 2 (xs.map z0k))),(3,.one (.pt 2 3 [] 0 0)),(5,aI a),(6,aI ((i:Int) - 1))],[(3,⟨74,2,[[cI c1,.ar false 0 1 (c2.map rI)]]⟩)]⟩) (xs.length) ⟨xs.length,xs.length,by omega,rfl,by omega,by omega,by simp⟩ ?_
 rintro n σ ⟨i,a,hi,rfl,hia,hne,rfl⟩
 by_cases h:0<n
 ·obtain⟨m,rfl⟩: ∃m,n=m+1:=⟨n - 1,by omega⟩
  have hm:m<xs.length:=by omega
  have h':(0:Int)≤((m+1:Nat):Int) - 1:=by omega
  have e1:((m+1:Nat):Int) - 1=m:=by omega
  have wm:IntKind.i64.wrap ((m:Int) - 1)=m - 1:=z08 (by omega) (by omega)
  have hcm:=hcmp m hm
  have ham:=hat m hm
  have hmm:=hmem m hm
  have hnm:=fun e=>hne m hm e
  obtain⟨y,ha⟩: ∃y,xs[m]=y:=⟨_,rfl⟩
  rw[ha] at hcm ham hmm
  have hstep:ordC y ⟨c1,c2⟩≠0→∀j (h:j<xs.length),m≤j→ordC xs[j] ⟨c1,c2⟩≠0:=fun hz j hj hmj=>by
   by_cases e:m=j
   ·subst e; rw[ha]; exact hz
   ·exact hne j hj (by omega)
  rcases y with⟨a1,a2⟩
  rw[e1]
  simp[hm,ha,z0k]
  first | refine z00 hcm (by simp) ?_ | refine z0c hcm (by simp) ?_ | refine z0z hcm (by simp) ?_ | refine z0e hcm rfl rfl (by simp) (by simp) ?_ | refine⟨_,by simp,hcm,?_⟩
  try simp
  by_cases d:ordC ⟨a1,a2⟩ ⟨c1,c2⟩=0
  ·simp[d,putR,hmm d]
  ·have hst:=hstep d
   by_cases d2:0<ordC ⟨a1,a2⟩ ⟨c1,c2⟩
   ·have:=ham.1 d2
    have e2:max q m=m:=by omega
    simp[d,d2,wm]
    refine⟨m,by omega,m,by omega,rfl,?_⟩
    exact⟨hst,by omega⟩
   ·have: ¬q≤m:=fun h=>d2 (ham.2 h)
    have e2:max q m=q:=by omega
    have e3:max q (m+1)=q:=by omega
    simp[d,d2,wm]
    refine⟨m,by omega,m,by omega,rfl,?_⟩
    exact⟨hst,by omega⟩
 ·have hn0:n=0:=by omega
  subst hn0
  have haq:a=q:=by omega
  subst haq
  have hnm:=hnot fun j hj=>hne j hj (Nat.zero_le _)
  have hb1:a≤4294967296:=by omega
  have hb2:a+1≤4294967296:=by omega
  have hb3:c2.length≤4294967296:=by omega
  have hb5:a+1+(xs.length - a)≤4294967296:=by omega
  simp[putR,hnm,hput hnm,hb1,hb2,hb3,hb5,hle]
  rw[List.take_of_length_le (by simp; omega),List.take_take]
  simp[z0k]
  rw[List.take_of_length_le (by simp; omega)]
  simp
end
end Go.Am
