/- Text 24 for FnExactAhead. -/
import Derived.Test.YtmpnhclbmgjpgaaGreatAhead23
set_option linter.unusedVariables false
set_option linter.unusedSimpArgs false
namespace Go.Am
open Go.Proofs
set_option maxHeartbeats 4000000
set_option maxRecDepth 100000
attribute [-simp] BitVec.toNat_or BitVec.toNat_and BitVec.toNat_ofInt
section
attribute [-simp] z03 z05 z02
def entC (q:Nat×Nat×Bool):List C:=[.int .u32 q.1,.int .i64 q.2.1,.bool q.2.2]
def tabC (T:List (Nat×Nat×Bool)):List C:=T.flatMap entC
theorem h0w: ∀T:List (Nat×Nat×Bool),(tabC T).length=3*T.length
 | []=>rfl
 | q :: T=>by rw[tabC,List.flatMap_cons,List.length_append,← tabC,h0w T]; simp[entC]; omega
theorem h0v: ∀(m:Nat) (T:List (Nat×Nat×Bool)),(tabC T).drop (3*m)=tabC (T.drop m)
 | 0,T=>rfl
 | m+1,[]=>by simp[tabC]
 | m+1,q :: T=>by
   rw[show 3*(m+1)=3*m+1+1+1 by omega]
   exact h0v m T
theorem z18: ∀(m:Nat) (T:List (Nat×Nat×Bool)),(tabC T).take (3*m)=tabC (T.take m)
 | 0,T=>rfl
 | m+1,[]=>by simp[tabC]
 | m+1,q :: T=>by
   rw[show 3*(m+1)=3*m+1+1+1 by omega]
   have:=z18 m T
   show List.take (3*m+1+1+1) (entC q ++ tabC T)=entC q ++ tabC (T.take m)
   simp only[entC,List.cons_append,List.nil_append,List.take_succ_cons,this]
theorem h1p {T:List (Nat×Nat×Bool)} {m:Nat} (h:m<T.length):((tabC T).drop (3*m)).take 3=entC T[m]:=by
 rw[h0v,List.drop_eq_getElem_cons h]
 rfl
theorem h1q {T:List (Nat×Nat×Bool)} {m:Nat} (h:m<T.length) (q:Nat×Nat×Bool):(tabC T).take (3*m) ++ entC q ++ (tabC T).drop (3*m+3)=tabC (T.set m q):=by
 rw[z18,show 3*m+3=3*(m+1) by omega,h0v,List.set_eq_take_append_cons_drop,if_pos h]
 simp[tabC,List.append_assoc]
def lkR (g:TGram) (w:List Int) (T:List (Nat×Nat×Bool)):List C:= .ar false 0 1 (g.parts.map sISS) :: .ar false 0 1 (w.map rI) :: tabC T
structure TabOk (g:TGram) (w:List Int) (T:List (Nat×Nat×Bool)):Prop where
 len:T.length=220
 ok: ∀(k a E f:Nat),k<g.parts.length→a≤w.length→T[k*11+a]?=some (E,f,true)→Spr g.parts w [100+(k:Int)] a E f
def t0g (g:TGram) (w:List Int) (t:Nat) (row:List Int) (a:Nat) (r:A) (H:List (Nat×Obj)):Prop:=∃(E f:Nat) (d:Bool) (T:List (Nat×Nat×Bool)),Spr g.parts w row a E f∧TabOk g w T∧H=[(1000,⟨t,662,[lkR g w T]⟩)]∧r = .agg (entC (E,f,d))
theorem o13 {T:List (Nat×Nat×Bool)} (h:T.length=220) {k a:Nat} (hk:k<20) (ha:a<11): ∃hm:k*11+a<T.length,∀c1 c2:C,((c1 :: c2 :: tabC T).drop (2+k*33+a*3)).take 3=entC T[k*11+a]:=by
 refine⟨by omega,fun c1 c2=>?_⟩
 rw[show 2+k*33+a*3=3*(k*11+a)+1+1 by omega,List.drop_succ_cons,List.drop_succ_cons]
 exact h1p _
theorem a1h {T:List (Nat×Nat×Bool)} (h:T.length=220) {k a:Nat} (hk:k<20) (ha:a<11) (q:Nat×Nat×Bool) (c1 c2:C):(c1 :: c2 :: tabC T).take (2+k*33+a*3) ++ entC q ++ (c1 :: c2 :: tabC T).drop (2+k*33+a*3+3)=c1 :: c2 :: tabC (T.set (k*11+a) q):=by
 rw[show 2+k*33+a*3=3*(k*11+a)+1+1 by omega,show 3*(k*11+a)+1+1+3=3*(k*11+a)+3+1+1 by omega,List.take_succ_cons,List.take_succ_cons,List.drop_succ_cons,List.drop_succ_cons,List.cons_append,List.cons_append,List.cons_append,List.cons_append,h1q (by omega)]
def c1m:K:=dc 0x4a060032fc0289c10410010000000800c05270800c10031261800cbf26941063040080040000002003014942e64004902023882080f081228434610b980012008020101f09fe9e54a75c2c4795f4101d57d6c0042715f5a6411db57d080695f5800109957d5c119857d58d5d5f4001657d5540144ce3444d20d244004245004640f34f00038201204000310d1800cbf0d30b243263ad030200b82ae4a04428100900018100808882ae474041c10020400060010000000800c316b481040
def j18:Nat×List RV:=(41,[.c 6 3 true])
theorem c_230:z01 PA 230 j18 c1m:=by unfold z01; kernel_rfl
theorem y15 (g:TGram) (w:List Int) (t:Nat) (x:Int) (a:Nat) (T:List (Nat×Nat×Bool)) (hT:TabOk g w T) (hwl:w.length≤10) (ha:a≤w.length) (hx:0≤x) (hx2:x<120)
 (hp:100≤x→CallsA Tryz.prog 267 [.one (.pt 662 1000 [] 0 0),aI (x - 100),aI a] [(1000,⟨t,662,[lkR g w T]⟩)] (t0g g w t [x] a)) :
 CallsA Tryz.prog 230 [.one (.pt 662 1000 [] 0 0),aI x,aI a] [(1000,⟨t,662,[lkR g w T]⟩)] (t0g g w t [x] a):=by
 have hlt:=fun h1 h2 h3=>@h1m g.parts w x a h1 h2 hwl h3
 have hno:=fun h1 h2=>@s1f g.parts w x a h1 ha h2
 have hfin: ∀E f d,Spr g.parts w [x] a E f→t0g g w t [x] a (.agg (entC (E,f,d))) [(1000,⟨t,662,[lkR g w T]⟩)]:=fun E f d h=>⟨E,f,d,T,h,hT,rfl,rfl⟩
 generalize hR:t0g g w t [x] a=R at *
 have hRe: ∀r H,R r H→∃(E f:Nat) (d:Bool) (T':List (Nat×Nat×Bool)),H=[(1000,⟨t,662,[lkR g w T']⟩)]∧r = .agg (entC (E,f,d)):=fun r H h=>by
  rw[← hR] at h
  obtain⟨E,f,d,T',_,_,h1,h2⟩:=h
  exact⟨E,f,d,T',h1,h2⟩
 clear hR
 refine q03 c_230 (by simp[j18]) (by simp) ?_
 (conv in c1m=>reduce); unfold j18
 obtain⟨ps⟩:=g
 simp only[lkR,entC] at hp hfin hRe ⊢
 by_cases c1:100≤x
 ·have w1:IntKind.i64.wrap (x - 100)=x - 100:=z08 (by omega) (by omega)
  simp[c1,w1]
  refine CallsA.mono (hp c1) ?_
  intro r H hr
  obtain⟨E,f,d,T',rfl,rfl⟩:=hRe r H hr
  refine⟨_,rfl,rfl,rfl,.inl rfl,by simp,?_⟩
  simp
  exact hr
 ·have c1':x<100:=by omega
  by_cases c2:(a:Int)<w.length
  ·have c2n:a<w.length:=by omega
   by_cases c3:w[a]=x
   ·have w2:IntKind.i64.wrap ((a:Int)+1)=a+1:=z08 (by omega) (by omega)
    have w3:IntKind.u64.wrap ((a:Int)+1)=a+1:=v0z (by omega) (by omega)
    have w4:=shlU (x:=(a:Int)+1) (by omega) (by omega)
    have e4:((a:Int)+1).toNat=a+1:=by omega
    rw[e4,Int.one_mul] at w4
    have nx: ¬(a:Int)+1<0:=by omega
    simp[c1,c2,c2n,c3,w2,w3,x0r,nx]
    rw[w4]
    have:=hfin _ _ false (hlt c1' c2n c3)
    exact this
   ·have:=hfin _ _ false (hno c1' (by rw[List.getElem?_eq_getElem c2n]; simpa using c3))
    simp[c1,c2,c2n,c3]
    exact this
  ·have:=hfin _ _ false (hno c1' (by rw[List.getElem?_eq_none (by omega)]; simp))
   simp[c1,c2]
   exact this
def Inn (ps:List (List (List Int))) (w:List Int) (pre:List Int) (x:Int) (a i E f:Nat):Prop:=E<2 ^ 11∧(∀j,E.testBit j=true↔∃m,a≤m∧m<i∧Drv ps w pre a m∧Drv ps w [x] m j)∧IsFar (fun m=>Tch ps w pre a m∨∃k,a≤k∧k<i∧Drv ps w pre a k∧Tch ps w [x] k m) f
theorem inn_0 {ps:List (List (List Int))} {w pre:List Int} {x:Int} {a E f:Nat} (h:Spr ps w pre a E f):Inn ps w pre x a a 0 f:=
 ⟨by omega,fun j=>by simp only[Nat.zero_testBit,Bool.false_eq_true,false_iff]; rintro⟨m,h1,h2,_⟩; omega,h.2.2.congr fun m=>⟨fun h=>h.elim id fun ⟨k,h1,h2,_⟩=>by omega,.inl⟩⟩
theorem f1k {ps:List (List (List Int))} {w pre:List Int} {x:Int} {a i E f:Nat} (hn: ¬Drv ps w pre a i) (h:Inn ps w pre x a i E f):Inn ps w pre x a (i+1) E f:=by
 obtain⟨h1,h2,h3⟩:=h
 have key: ∀(S:Nat→Prop),(∃m,a≤m∧m<i+1∧Drv ps w pre a m∧S m)↔∃m,a≤m∧m<i∧Drv ps w pre a m∧S m:=fun S=>
  ⟨fun ⟨m,j1,j2,j3,j4⟩=>by
    by_cases e:m=i
    ·subst e; exact absurd j3 hn
    ·exact⟨m,j1,by omega,j3,j4⟩,fun ⟨m,j1,j2,j3,j4⟩=>⟨m,j1,by omega,j3,j4⟩⟩
 exact⟨h1,fun j=>by rw[h2 j,key fun m=>Drv ps w [x] m j],h3.congr fun m=>by rw[key fun k=>Tch ps w [x] k m]⟩
theorem n1v {ps:List (List (List Int))} {w pre:List Int} {x:Int} {a i E f E' f':Nat} (ha:a≤i) (hd:Drv ps w pre a i) (h:Inn ps w pre x a i E f) (k:Spr ps w [x] i E' f'):Inn ps w pre x a (i+1) (E ||| E') (Nat.max f f'):=by
 obtain⟨h1,h2,h3⟩:=h
 obtain⟨k1,k2,k3⟩:=k
 have key: ∀(S:Nat→Prop),(∃m,a≤m∧m<i+1∧Drv ps w pre a m∧S m)↔(∃m,a≤m∧m<i∧Drv ps w pre a m∧S m)∨S i:=fun S=>
  ⟨fun ⟨m,j1,j2,j3,j4⟩=>by
    by_cases e:m=i
    ·subst e; exact .inr j4
    ·exact .inl ⟨m,j1,by omega,j3,j4⟩,fun h=>h.elim (fun ⟨m,j1,j2,j3,j4⟩=>⟨m,j1,by omega,j3,j4⟩) fun h=>⟨i,ha,by omega,hd,h⟩⟩
 refine⟨Nat.or_lt_two_pow h1 k1,fun j=>?_,(h3.max k3).congr fun m=>?_⟩
 ·rw[Nat.testBit_or,Bool.or_eq_true,h2 j,k2 j,key fun m=>Drv ps w [x] m j]
 ·rw[key fun k=>Tch ps w [x] k m,or_assoc]
theorem n1u {ps:List (List (List Int))} {w pre:List Int} {x:Int} {a i E f:Nat} (hi:w.length<i) (h:Inn ps w pre x a i E f):Spr ps w (pre ++ [x]) a E f:=by
 obtain⟨h1,h2,h3⟩:=h
 refine⟨h1,fun j=>?_,h3.congr fun m=>?_⟩
 ·rw[h2 j,p0b]
  exact⟨fun ⟨m,_,_,j3,j4⟩=>⟨m,j3,j4⟩,fun ⟨m,j3,j4⟩=>⟨m,j3.le.1,by have:=j3.le; omega,j3,j4⟩⟩
 ·rw[z1b]
  exact or_congr Iff.rfl ⟨fun ⟨m,j3,j4⟩=>⟨m,j3.le.1,by have:=j3.le; omega,j3,j4⟩,fun ⟨m,_,_,j3,j4⟩=>⟨m,j3,j4⟩⟩
theorem p1h {ps:List (List (List Int))} {w r1:List Int} {a f:Nat} (r2:List Int) (h:Spr ps w r1 a 0 f):Spr ps w (r1 ++ r2) a 0 f:=by
 obtain⟨h1,h2,h3⟩:=h
 have hd: ∀j,¬Drv ps w r1 a j:=fun j hj=>by have:=(h2 j).2 hj; simp at this
 exact⟨h1,fun j=>by simp only[Nat.zero_testBit,Bool.false_eq_true,false_iff]; exact r1b hd,h3.congr fun m=>p1k hd⟩
end
section
attribute [-simp] z03 z05 z02
theorem j01 {g:TGram} (h:y09 g=0):y02 g=true:=by
 unfold y09 at h
 cases hg:y02 g with
 | true=>rfl
 | false=>simp[hg] at h
def setB (b:Bool):Option (List TConf)→A
 | some S=> .tup [(false,[cS b S]),(false,[.bool true])]
 | none=>k0m
def SetP (o:Option (List TConf)) (r:A) (H:List (Nat×Obj)):Prop:=H=[]∧∃b,r=setB b o
def WorkI (ps:w03) (cs:Nat→List TConf) (len:Nat) (tm0:Nat→List (Nat×A)) (ob0:List (Nat×Obj)) (id:Nat) (n:Nat) (σ:St):Prop:=∃(i:Nat) (bs bw:Bool) (S W:List TConf) (ok:Bool),i≤len∧n=len - i∧Clo ps (cs i) [] S W (!ok)∧σ=⟨tm0 i,ob0 ++ [(id,wkO bs bw S W ok)]⟩
end
end Go.Am
