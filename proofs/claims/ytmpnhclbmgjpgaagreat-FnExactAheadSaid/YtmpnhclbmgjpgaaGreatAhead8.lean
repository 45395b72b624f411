/- Text 8 for FnExactAhead. -/
import Derived.Test.YtmpnhclbmgjpgaaGreatAhead6
import Derived.Test.YtmpnhclbmgjpgaaGreatAhead7
set_option linter.unusedVariables false
set_option linter.unusedSimpArgs false
namespace Go.Am
open Go.Proofs
set_option maxHeartbeats 4000000
set_option maxRecDepth 100000
attribute [-simp] BitVec.toNat_or BitVec.toNat_and BitVec.toNat_ofInt
section
attribute [-simp] z03 z05 z02
def z0h {α:Type} (step:Nat→List (List Int)→α→α):Nat→List (List (List Int))→α→α
 | _,[],a=>a
 | k,al :: r,a=>z0h step (k+1) r (step k al a)
theorem w07 {α:Type} {step:Nat→List (List Int)→α→α} {ps:List (List (List Int))} {i:Nat} {a:α} (h:i<ps.length):z0h step i (ps.drop i) a=z0h step (i+1) (ps.drop (i+1)) (step i ps[i] a):=by
 rw[List.drop_eq_getElem_cons h,z0h]
theorem w0w {α:Type} {step:Nat→List (List Int)→α→α} {ps:List (List (List Int))} {i:Nat} {a:α} (h: ¬i<ps.length):z0h step i (ps.drop i) a=a:=by
 rw[List.drop_eq_nil_of_le (by omega),z0h]
theorem v0o {α β:Type} {f:α→β→α} {xs:List β} {i:Nat} {a:α} (h:i<xs.length):(xs.drop i).foldl f a=(xs.drop (i+1)).foldl f (f a xs[i]):=by
 rw[List.drop_eq_getElem_cons h,List.foldl_cons]
theorem t01 {α β:Type} {f:α→β→α} {xs:List β} {i:Nat} {a:α} (h: ¬i<xs.length):(xs.drop i).foldl f a=a:=by
 rw[List.drop_eq_nil_of_le (by omega),List.foldl_nil]
theorem r09 {α:Type} {step:Nat→List (List Int)→α→α} {I:α→Prop} {R:α→α→Prop} (hr: ∀a,I a→R a a) (ht: ∀a b c,R a b→R b c→R a c) :
 ∀{ps:List (List (List Int))} {k:Nat} {a:α},(∀j al a,k≤j→j<k+ps.length→al∈ps→I a→I (step j al a)∧R a (step j al a))→I a→I (z0h step k ps a)∧R a (z0h step k ps a)
 | [],k,a,_,ha=>⟨ha,hr a ha⟩
 | al :: r,k,a,hs,ha=>by
   obtain⟨h1,h2⟩:=hs k al a (Nat.le_refl _) (by simp) (List.mem_cons_self ..) ha
   obtain⟨h3,h4⟩:=r09 (k:=k+1) hr ht (ps:=r) (fun j al' a' hj1 hj2 hm=>hs j al' a' (by omega) (by simp at *; omega) (List.mem_cons_of_mem _ hm)) h1
   exact⟨h3,ht _ _ _ h2 h4⟩
theorem w0d {α β:Type} {f:α→β→α} {I:α→Prop} {R:α→α→Prop} (hr: ∀a,I a→R a a) (ht: ∀a b c,R a b→R b c→R a c) :
 ∀{xs:List β} {a:α},(∀x a,x∈xs→I a→I (f a x)∧R a (f a x))→I a→I (xs.foldl f a)∧R a (xs.foldl f a)
 | [],a,_,ha=>⟨ha,hr a ha⟩
 | x :: xs,a,hs,ha=>by
   obtain⟨h1,h2⟩:=hs x a (List.mem_cons_self ..) ha
   obtain⟨h3,h4⟩:=w0d hr ht (xs:=xs) (fun y a' hm=>hs y a' (List.mem_cons_of_mem _ hm)) h1
   exact⟨h3,ht _ _ _ h2 h4⟩
theorem l03 {α β:Type} {s1:Nat→List (List Int)→α→α} {s2:Nat→List (List Int)→β→β} {Q:α→β→Prop} :
 ∀{ps:List (List (List Int))} {k:Nat} {a:α} {b:β},(∀j al a b,k≤j→j<k+ps.length→al∈ps→Q a b→Q (s1 j al a) (s2 j al b))→Q a b→Q (z0h s1 k ps a) (z0h s2 k ps b)
 | [],_,_,_,_,h=>h
 | al :: r,k,a,b,hs,h=>l03 (k:=k+1) (fun j al' a' b' hj1 hj2 hm=>hs j al' a' b' (by omega) (by simp at *; omega) (List.mem_cons_of_mem _ hm)) (hs k al a b (Nat.le_refl _) (by simp) (List.mem_cons_self ..) h)
theorem m0c {α β γ:Type} {f:α→γ→α} {g:β→γ→β} {Q:α→β→Prop}: ∀{xs:List γ} {a:α} {b:β},(∀x a b,x∈xs→Q a b→Q (f a x) (g b x))→Q a b→Q (xs.foldl f a) (xs.foldl g b)
 | [],_,_,_,h=>h
 | x :: xs,a,b,hs,h=>m0c (xs:=xs) (fun y a' b' hm=>hs y a' b' (List.mem_cons_of_mem _ hm)) (hs x a b (List.mem_cons_self ..) h)
def prt (x:Int):Nat:=(x - 100).toNat
def y0l (f:Nat) (row:List Int):Bool:=row.all (fun x=>decide (100≤x) && f.testBit (prt x))
def w04 (f:Nat) (row:List Int):Bool:=row.all (fun x=>decide (x<100) || f.testBit (prt x))
def setP (p:Nat→List Int→Bool) (k:Nat) (al:List (List Int)) (f:Nat):Nat:=al.foldl (fun f row=>if p f row=true then f ||| 2 ^ k else f) f
def t0m (f:Nat) (row:List Int):Nat:=row.foldl (fun f x=>if 100≤x then f ||| 2 ^ prt x else f) f
def rchP (k:Nat) (al:List (List Int)) (f:Nat):Nat:=if f.testBit k=true then al.foldl t0m f else f
def y00 (ps:List (List (List Int))):Nat:=iter (z0h (setP y0l) 0 ps) (ps.length+1) 0
def k0p (ps:List (List (List Int))):Nat:=iter (z0h (setP w04) 0 ps) (ps.length+1) 0
def rchs (ps:List (List (List Int))):Nat:=iter (z0h rchP 0 ps) (ps.length+1) 1
def upd (v:List Nat) (k x:Nat):List Nat:=v.set k (v.getD k 0 ||| (2 ^ x ||| v.getD x 0))
def t0e (e k:Nat):List Int→List Nat→List Nat
 | [],v=>v
 | x :: r,v=>if 100≤x then (if e.testBit (prt x)=true then t0e e k r (upd v k (prt x)) else upd v k (prt x)) else v
def stP (e k:Nat) (al:List (List Int)) (v:List Nat):List Nat:=al.foldl (fun v row=>t0e e k row v) v
def u0a (ps:List (List (List Int))):List Nat:=iter (z0h (stP (y00 ps)) 0 ps) (ps.length+1) (List.replicate ps.length 0)
def y09 (g:TGram):Int:=
 if y02 g=false then 1 else if (List.range g.parts.length).any (fun k=>((u0a g.parts).getD k 0).testBit k) then 2 else
 if k0p g.parts≠2 ^ g.parts.length - 1 then 3 else if rchs g.parts≠2 ^ g.parts.length - 1 then 4 else 0
def i03 (n:Nat) (ps:List (List (List Int))):Prop:=∀al∈ps,∀row∈al,∀x∈row,100≤x→prt x<n
theorem q08 {f n x:Nat} (hf:f<2 ^ n) (hx:x<n):f ||| 2 ^ x<2 ^ n:=Nat.or_lt_two_pow hf (Nat.pow_lt_pow_right (by omega) hx)
theorem n09 (f g:Nat):sub f (f ||| g):=fun i hi=>by rw[Nat.testBit_or,hi,Bool.true_or]
def s0t (p:Nat→Nat) (n:Nat):Prop:=∀f,f<2 ^ n→p f<2 ^ n∧sub f (p f)
theorem x01 (p:Nat→List Int→Bool) {n k:Nat} (hk:k<n) (al:List (List Int)):s0t (setP p k al) n:=fun f hf=>
 w0d (I:=fun f=>f<2 ^ n) (R:=sub) (fun a _=>x02 a) (fun _ _ _=>w06) (fun row f _ hf=>by
  by_cases h:p f row=true
  ·simp only[h,if_true]; exact⟨q08 hf hk,n09 _ _⟩
  ·simp only[h,if_false]; exact⟨hf,x02 _⟩) hf
theorem y0e {step:Nat→List (List Int)→Nat→Nat} {ps:List (List (List Int))} (h: ∀k al,k<ps.length→al∈ps→s0t (step k al) ps.length):s0t (z0h step 0 ps) ps.length:=fun f hf=>
 r09 (I:=fun f=>f<2 ^ ps.length) (R:=sub) (fun a _=>x02 a) (fun _ _ _=>w06) (fun j al a _ hj hm ha=>h j al (by omega) hm a ha) hf
theorem r0v {n k:Nat} {al:List (List Int)} (hs: ∀row∈al,∀x∈row,100≤x→prt x<n):s0t (rchP k al) n:=fun f hf=>by
 unfold rchP
 split
 ·exact w0d (I:=fun f=>f<2 ^ n) (R:=sub) (fun a _=>x02 a) (fun _ _ _=>w06) (fun row f hr hf=>
   w0d (I:=fun f=>f<2 ^ n) (R:=sub) (fun a _=>x02 a) (fun _ _ _=>w06) (fun x f hx hf=>by
    by_cases h:100≤x
    ·simp only[h,if_true]; exact⟨q08 hf (hs row hr x hx h),n09 _ _⟩
    ·simp only[h,if_false]; exact⟨hf,x02 _⟩) hf) hf
 ·exact⟨hf,x02 _⟩
theorem r0q {p:Nat→Nat} {n a:Nat} (hg:s0t p n) (ha:a<2 ^ n):p (iter p n a)=iter p n a:=w1u (fun f hf=>(hg f hf).2) (fun f hf=>(hg f hf).1) ha
theorem y0u {p:Nat→Nat} {n a:Nat} (hg:s0t p n) (ha:a<2 ^ n): ∀k,iter p k a<2 ^ n
 | 0=>ha
 | k+1=>(hg _ (y0u hg ha k)).1
theorem c0l {α:Type} {p:α→α} {n m:Nat} {a:α} (hn:p (iter p n a)=iter p n a) (hm:p (iter p m a)=iter p m a):iter p m a=iter p (n+1) a:=by
 rcases Nat.le_total m (n+1) with h | h
 ·exact (s0i hm (n+1) h).symm
 ·rw[s0i hn m (by omega),s0i hn (n+1) (by omega)]
def Col (n m:Nat) (v:List Nat) (c:Nat):Prop:=v.length=n∧c<2 ^ n∧∀k,k<n→c.testBit k=(v.getD k 0).testBit m
def cUpd (m:Nat) (c k x:Nat):Nat:=if x=m∨c.testBit x=true then c ||| 2 ^ k else c
def cRow (e m k:Nat):List Int→Nat→Nat
 | [],c=>c
 | x :: r,c=>if 100≤x then (if e.testBit (prt x)=true then cRow e m k r (cUpd m c k (prt x)) else cUpd m c k (prt x)) else c
def cP (e m k:Nat) (al:List (List Int)) (c:Nat):Nat:=al.foldl (fun c row=>cRow e m k row c) c
theorem u01 {v:List Nat} {k j a:Nat} (hk:k<v.length):(v.set k a).getD j 0=if j=k then a else v.getD j 0:=by
 rw[List.getD_eq_getElem?_getD,List.getD_eq_getElem?_getD,List.getElem?_set]
 by_cases h:k=j
 ·subst h; simp[hk]
 ·simp[h,show ¬j=k by omega]
theorem n15 {n m k x c:Nat} {v:List Nat} (hk:k<n) (hx:x<n) (h:Col n m v c):Col n m (upd v k x) (cUpd m c k x):=by
 obtain⟨h1,h2,h3⟩:=h
 refine⟨by simp[upd,h1],?_,fun j hj=>?_⟩
 ·unfold cUpd; split
  ·exact q08 h2 hk
  ·exact h2
 ·rw[upd,u01 (by omega)]
  have hxm:((2 ^ x).testBit m=true)↔x=m:=by
   by_cases e:x=m
   ·subst e; simp[Nat.testBit_two_pow_self]
   ·simp[Nat.testBit_two_pow_of_ne e,e]
  unfold cUpd
  by_cases e:j=k
  ·subst e
   rw[if_pos rfl,Nat.testBit_or,Nat.testBit_or,← h3 j hj,← h3 x hx]
   by_cases hc:x=m∨c.testBit x=true
   ·rw[if_pos hc,Nat.testBit_or,Nat.testBit_two_pow_self,Bool.or_true]
    rcases hc with hc | hc
    ·rw[hxm.2 hc]; simp
    ·rw[hc]; simp
   ·rw[if_neg hc]
    have a1:(2 ^ x).testBit m=false:=by cases hh:(2 ^ x).testBit m with
     | false=>rfl
     | true=>exact absurd (.inl (hxm.1 hh)) hc
    have a2:c.testBit x=false:=by cases hh:c.testBit x with
     | false=>rfl
     | true=>exact absurd (.inr hh) hc
    rw[a1,a2]; simp
  ·rw[if_neg e,← h3 j hj]
   split
   ·rw[Nat.testBit_or,Nat.testBit_two_pow_of_ne (by omega),Bool.or_false]
   ·rfl
theorem w1h {e n m k:Nat} (hk:k<n): ∀{row:List Int} {v:List Nat} {c:Nat},(∀x∈row,100≤x→prt x<n)→Col n m v c→Col n m (t0e e k row v) (cRow e m k row c)
 | [],_,_,_,h=>h
 | x :: r,v,c,hs,h=>by
   simp only[t0e,cRow]
   by_cases hx:100≤x
   ·rw[if_pos hx,if_pos hx]
    have h2:=n15 hk (hs x (List.mem_cons_self ..) hx) h
    split
    ·exact w1h hk (fun y hy=>hs y (List.mem_cons_of_mem _ hy)) h2
    ·exact h2
   ·rw[if_neg hx,if_neg hx]; exact h
theorem z1p {n m k x:Nat} (hk:k<n):s0t (fun c=>cUpd m c k x) n:=fun c hc=>by
 simp only[cUpd]; split
 ·exact⟨q08 hc hk,n09 _ _⟩
 ·exact⟨hc,x02 _⟩
theorem k0w {e n m k:Nat} (hk:k<n): ∀row:List Int,s0t (cRow e m k row) n
 | [],f,hf=>⟨hf,x02 _⟩
 | x :: r,f,hf=>by
   simp only[cRow]
   obtain⟨h1,h2⟩:=z1p (m:=m) (x:=prt x) hk f hf
   split
   ·split
    ·obtain⟨h3,h4⟩:=k0w hk r _ h1
     exact⟨h3,w06 h2 h4⟩
    ·exact⟨h1,h2⟩
   ·exact⟨hf,x02 _⟩
theorem h05 {α β:Type} {p:α→α} {q:β→β} {Q:α→β→Prop} (h: ∀a b,Q a b→Q (p a) (q b)) {a:α} {b:β} (h0:Q a b): ∀n,Q (iter p n a) (iter q n b)
 | 0=>h0
 | n+1=>h _ _ (h05 h h0 n)
theorem l0y {e:Nat} {ps:List (List (List Int))} (hs:i03 ps.length ps) :
 z0h (stP e) 0 ps (iter (z0h (stP e) 0 ps) ps.length (List.replicate ps.length 0))=iter (z0h (stP e) 0 ps) ps.length (List.replicate ps.length 0):=by
 have hcol: ∀m v c,Col ps.length m v c→Col ps.length m (z0h (stP e) 0 ps v) (z0h (cP e m) 0 ps c):=fun m v c h=>
  l03 (Q:=Col ps.length m) (fun j al v c _ hj hm h=>m0c (Q:=Col ps.length m) (fun row v c hr h=>w1h (by omega) (hs al hm row hr) h) h) h
 have hg: ∀m,s0t (z0h (cP e m) 0 ps) ps.length:=fun m=>y0e fun k al hk _ f hf=>
  w0d (I:=fun f=>f<2 ^ ps.length) (R:=sub) (fun a _=>x02 a) (fun _ _ _=>w06) (fun row f _ hf=>k0w hk row f hf) hf
 have h0: ∀m,Col ps.length m (List.replicate ps.length 0) 0:=fun m=>⟨by simp,Nat.two_pow_pos _,fun k hk=>by simp[List.getD_eq_getElem?_getD,List.getElem?_replicate,hk]⟩
 have hit: ∀m,Col ps.length m (iter (z0h (stP e) 0 ps) ps.length (List.replicate ps.length 0)) (iter (z0h (cP e m) 0 ps) ps.length 0):=fun m=>h05 (hcol m) (h0 m) _
 apply List.ext_getElem
 ·rw[(hcol 0 _ _ (hit 0)).1,(hit 0).1]
 ·intro k h1 h2
  apply Nat.eq_of_testBit_eq
  intro m
  have hk:k<ps.length:=by rw[(hit 0).1] at h2; exact h2
  have a1:=(hcol m _ _ (hit m)).2.2 k hk
  have a2:=(hit m).2.2 k hk
  rw[r0q (hg m) (Nat.two_pow_pos _)] at a1
  rw[a1] at a2
  rw[List.getD_eq_getElem?_getD,List.getD_eq_getElem?_getD,List.getElem?_eq_getElem h1,List.getElem?_eq_getElem h2] at a2
  exact a2
end
section
attribute [-simp] z03 z05 z02
def k_63:K:=dc 0x40840441e848013fe40e430d6a050c00030400ba041040
def r_63:Nat×List RV:=(5,[.t 2])
theorem c_63:z01 PA 63 r_63 k_63:=by unfold z01; kernel_rfl
theorem p0h (a:Int):z06 Tryz.prog 63 [aI a] (aB (inr a 0 1000000)):=by
 refine Prun c_63 (by simp[r_63]) (by simp) ?_
 (conv in k_63=>reduce); unfold r_63
 simp
 refine z00 (z0n _ _ _) (by simp) ?_
 simp
def k_64:K:=
 .seq (
  .reg none [⟨(some 1),none,.box 42 10 (.t 0)⟩,
   ⟨(some 2),none,.asn (.c (.bool false))⟩]) (
 .seq (
  .seq (
   .reg none [⟨(some 9),none,.fad 8 (.t 1)⟩,
    ⟨(some 10),none,.ld 1 false (.t 9)⟩,
    ⟨(some 11),none,.len (.t 10)⟩,
    ⟨(some 12),none,.fad 9 (.t 1)⟩,
    ⟨(some 13),none,.ld 1 false (.t 12)⟩,
    ⟨(some 14),none,.len (.t 13)⟩,
    ⟨(some 15),none,.bin .add (.t 11) (.t 14)⟩,
    ⟨(some 16),none,.fad 6 (.t 1)⟩,
    ⟨(some 17),none,.ld 1 false (.t 16)⟩,
    ⟨(some 18),none,.fad 7 (.t 1)⟩,
    ⟨(some 19),none,.ld 1 false (.t 18)⟩,
    ⟨(some 20),none,.bin .sub (.t 17) (.t 19)⟩,
    ⟨(some 21),none,.bin .neq (.t 15) (.t 20)⟩]) (
  .cond (.t 21) (
   .seq (
    .reg none [⟨(some 2),none,.asn (.c (.bool false))⟩]) (
   .ret)) (
   .skip))) (
 .seq (
  .reg none [⟨(some 3),none,.asn (.c (.ar true 3 1 []))⟩]) (
 .seq (
  .seq (
   .reg none [⟨(some 22),none,.fad 8 (.t 1)⟩,
    ⟨(some 23),none,.ld 1 false (.t 22)⟩,
    ⟨(some 24),none,.len (.t 23)⟩,
    ⟨(some 25),none,.mv (.c (.int .i64 (0)))⟩]) (
  .block 0 (
   .loop (some ([1,3,23,24,25],[1,3,1000])) (
    .seq (
     .reg none [⟨(some 26),none,.bin .lss (.t 25) (.t 24)⟩]) (
    .seq (
     .cond (.t 26) (
      .skip) (
      .exit 0)) (
    .seq (
     .block 1 (
      .seq (
       .reg none [⟨(some 27),none,.mv (.t 25)⟩,
        ⟨(some 28),none,.iad 10 (.t 23) (.t 25)⟩,
        ⟨(some 29),none,.ld 10 true (.t 28)⟩,
        ⟨(some 5),none,.alc 63 10 [(.int .i64 (0)),(.int .i64 (0)),(.ar true 3 1 []),(.int .i64 (0)),(.int .i64 (0)),(.int .i64 (0)),(.int .i64 (0)),(.ar true 203 2 []),(.ar true 282 5 []),(.ar true 222 3 [])]⟩,
        ⟨(some 4),none,.asn (.t 27)⟩,
        ⟨none,none,.st 10 false (.t 5) (.t 29)⟩]) (
      .seq (
       .seq (
        .drw none 14 [⟨(some 30),none,.mv (.t 4)⟩,
         ⟨(some 31),none,.bin .gtr (.t 30) (.c (.int .i64 (0)))⟩,
         ⟨(some 32),none,.mv (.t 31)⟩,
         ⟨(some 33),(some (32,true)),.fad 0 (.t 5)⟩,
         ⟨(some 34),(some (32,true)),.ld 1 false (.t 33)⟩,
         ⟨(some 35),(some (32,true)),.fad 8 (.t 1)⟩,
         ⟨(some 36),(some (32,true)),.ld 1 false (.t 35)⟩,
         ⟨(some 37),(some (32,true)),.mv (.t 4)⟩,
         ⟨(some 38),(some (32,true)),.bin .sub (.t 37) (.c (.int .i64 (1)))⟩,
         ⟨(some 39),(some (32,true)),.iad 10 (.t 36) (.t 38)⟩,
         ⟨(some 40),(some (32,true)),.fad 0 (.t 39)⟩,
         ⟨(some 41),(some (32,true)),.ld 1 false (.t 40)⟩,
         ⟨(some 42),(some (32,true)),.bin .leq (.t 34) (.t 41)⟩,
         ⟨(some 43),none,.pick (.t 32) (.t 42) (.c (.bool false))⟩]) (
       .cond (.t 43) (
        .seq (
         .reg none [⟨(some 2),none,.asn (.c (.bool false))⟩]) (
        .ret)) (
        .skip))) (
      .reg none [⟨(some 44),none,.mv (.t 3)⟩,
       ⟨(some 45),none,.fad 0 (.t 5)⟩,
       ⟨(some 46),none,.ld 1 false (.t 45)⟩,
       ⟨(some 47),none,.bls 3 1 false [(.t 46)]⟩,
       ⟨(some 48),none,.app 3 1 8 false (.t 44) (.t 47)⟩,
       ⟨(some 3),none,.asn (.t 48)⟩])))) (
    .reg none [⟨(some 49),none,.bin .add (.t 25) (.c (.int .i64 (1)))⟩,
     ⟨(some 25),none,.mv (.t 49)⟩]))))))) (
 .seq (
  .seq (
   .reg none [⟨(some 50),none,.fad 9 (.t 1)⟩,
    ⟨(some 51),none,.ld 1 false (.t 50)⟩,
    ⟨(some 52),none,.len (.t 51)⟩,
    ⟨(some 53),none,.mv (.c (.int .i64 (0)))⟩]) (
  .block 2 (
   .loop (some ([1,3,51,52,53],[1,3,1000])) (
    .seq (
     .reg none [⟨(some 54),none,.bin .lss (.t 53) (.t 52)⟩]) (
    .seq (
     .cond (.t 54) (
      .skip) (
      .exit 2)) (
    .seq (
     .block 3 (
      .seq (
       .reg none [⟨(some 55),none,.mv (.t 53)⟩,
        ⟨(some 56),none,.iad 3 (.t 51) (.t 53)⟩,
        ⟨(some 57),none,.ld 3 true (.t 56)⟩,
        ⟨(some 7),none,.alc 49 3 [(.int .i64 (0)),(.int .i64 (0)),(.str ⟨#[]⟩)]⟩,
        ⟨(some 6),none,.asn (.t 55)⟩,
        ⟨none,none,.st 3 false (.t 7) (.t 57)⟩]) (
      .seq (
       .seq (
        .drw none 20 [⟨(some 58),none,.mv (.t 6)⟩,
         ⟨(some 59),none,.bin .gtr (.t 58) (.c (.int .i64 (0)))⟩,
         ⟨(some 60),none,.mv (.t 59)⟩,
         ⟨(some 61),(some (60,true)),.fad 0 (.t 7)⟩,
         ⟨(some 62),(some (60,true)),.ld 1 false (.t 61)⟩,
         ⟨(some 63),(some (60,true)),.fad 9 (.t 1)⟩,
         ⟨(some 64),(some (60,true)),.ld 1 false (.t 63)⟩,
         ⟨(some 65),(some (60,true)),.mv (.t 6)⟩,
         ⟨(some 66),(some (60,true)),.bin .sub (.t 65) (.c (.int .i64 (1)))⟩,
         ⟨(some 67),(some (60,true)),.iad 3 (.t 64) (.t 66)⟩,
         ⟨(some 68),(some (60,true)),.fad 0 (.t 67)⟩,
         ⟨(some 69),(some (60,true)),.ld 1 false (.t 68)⟩,
         ⟨(some 70),(some (60,true)),.bin .leq (.t 62) (.t 69)⟩,
         ⟨(some 71),none,.pick (.t 60) (.t 70) (.c (.bool false))⟩,
         ⟨(some 72),none,.mv (.t 71)⟩,
         ⟨(some 73),(some (72,false)),.fad 1 (.t 7)⟩,
         ⟨(some 74),(some (72,false)),.ld 1 false (.t 73)⟩,
         ⟨(some 75),(some (72,false)),.call 69 [(.t 74)]⟩,
         ⟨(some 76),(some (72,false)),.bin .eql (.t 75) (.c (.str ⟨#[]⟩))⟩,
         ⟨(some 77),none,.pick (.t 72) (.c (.bool true)) (.t 76)⟩]) (
       .cond (.t 77) (
        .seq (
         .reg none [⟨(some 2),none,.asn (.c (.bool false))⟩]) (
        .ret)) (
        .skip))) (
      .reg none [⟨(some 78),none,.mv (.t 3)⟩,
       ⟨(some 79),none,.fad 0 (.t 7)⟩,
       ⟨(some 80),none,.ld 1 false (.t 79)⟩,
       ⟨(some 81),none,.bls 3 1 false [(.t 80)]⟩,
       ⟨(some 82),none,.app 3 1 8 false (.t 78) (.t 81)⟩,
       ⟨(some 3),none,.asn (.t 82)⟩])))) (
    .reg none [⟨(some 83),none,.bin .add (.t 53) (.c (.int .i64 (1)))⟩,
     ⟨(some 53),none,.mv (.t 83)⟩]))))))) (
 .seq (
  .seq (
   .reg none [⟨(some 84),none,.fad 7 (.t 1)⟩,
    ⟨(some 85),none,.ld 1 false (.t 84)⟩,
    ⟨(some 8),none,.asn (.t 85)⟩]) (
  .block 4 (
   .loop (some ([1,3,8],[1,3,8,1000])) (
    .seq (
     .seq (
      .reg none [⟨(some 86),none,.mv (.t 8)⟩,
       ⟨(some 87),none,.fad 6 (.t 1)⟩,
       ⟨(some 88),none,.ld 1 false (.t 87)⟩,
       ⟨(some 89),none,.bin .lss (.t 86) (.t 88)⟩]) (
     .cond (.t 89) (
      .skip) (
      .exit 4))) (
    .seq (
     .block 5 (
      .seq (
       .reg none [⟨(some 92),none,.mv (.t 3)⟩,
        ⟨(some 93),none,.mv (.t 8)⟩,
        ⟨(some 94),none,.call 81 [(.t 92),(.t 93)]⟩,
        ⟨(some 95),none,.not (.t 94)⟩]) (
      .cond (.t 95) (
       .seq (
        .reg none [⟨(some 2),none,.asn (.c (.bool false))⟩]) (
       .ret)) (
       .skip)))) (
    .reg none [⟨(some 90),none,.mv (.t 8)⟩,
     ⟨(some 91),none,.bin .add (.t 90) (.c (.int .i64 (1)))⟩,
     ⟨(some 8),none,.asn (.t 91)⟩])))))) (
 .seq (
  .reg none [⟨(some 2),none,.asn (.c (.bool true))⟩]) (
 .ret)))))))
def r_64:Nat×List RV:=(96,[.t 2])
theorem c_64:z01 PA 64 r_64 k_64:=by unfold z01; kernel_rfl
theorem m0s (t:TTenant) (hq:t.queue.length≤4) (ho:t.out.length<2 ^ 40) (b7:0≤t.due∧t.due≤1000000) (b8:0≤t.next∧t.next≤1000000):z06 Tryz.prog 64 [.agg (z07 t)] (aB (x0e t)):=by
 refine Prun c_64 (by simp[r_64]) (by simp) ?_
 unfold k_64 r_64
 have wn: ∀{n:Int}, -4000000≤n→n≤4000000→IntKind.i64.wrap n=n:=fun h1 h2=>z08 (by omega) (by omega)
 have wq:IntKind.i64.wrap ((t.queue.length:Int)+t.out.length)=t.queue.length+t.out.length:=z08 (by omega) (by omega)
 have wd:IntKind.i64.wrap (t.next - t.due)=t.next - t.due:=wn (by omega) (by omega)
 simp[z07,wq,wd]
 by_cases g5:(t.queue.length:Int)+t.out.length=t.next - t.due
 case neg=>simp[g5,x0e]
 simp[g5]
 refine z04 (fun n σ=>∃i:Nat,i≤t.queue.length∧n=t.queue.length - i∧allN (x04 (qT t)) i=true∧σ=⟨[(1,.one (.pt 10 1 [] 0 0)),(3,.one (.vw 3 1 3 [] 0 i)),(23,.one (.ar false 0 10 (t.queue.map sJob))),(24,aI t.queue.length),(25,aI i)],[(1,⟨42,10,[z07 t]⟩),(3,⟨3,1,((qT t).take i).map rI⟩)]⟩) t.queue.length ⟨0,by simp[z07,allN]⟩ ?_
 rintro n σ ⟨i,hi,rfl,ha,rfl⟩
 by_cases h:i<t.queue.length
 ·have hqi:(qT t).getD i 0=t.queue[i].ticket:=by simp[qT,List.getD,h]
  have w1:IntKind.i64.wrap ((i:Int)+1)=i+1:=z08 (by omega) (by omega)
  have hff:x04 (qT t) i=false→x0e t=false:=fun hp=>by
   have:=s0f h hp
   unfold x0e
   rw[this]; simp only[Bool.and_false,Bool.false_and]
  have hst:x04 (qT t) i=true→allN (x04 (qT t)) (i+1)=true:=fun hp=>by rw[v0a,ha,hp]; rfl
  have hLn:((qT t).take i).length=i:=by simp[qT]; omega
  have hLs:((qT t).take (i+1))=(qT t).take i ++ [t.queue[i].ticket]:=by
   rw[List.take_succ_eq_append_getElem (by simpa [qT] using h)]; simp[qT]
  have hbN:i+1≤4294967296:=by omega
  generalize (qT t).take i=L at *
  have hT:List.take i (L.map rI)=L.map rI:=List.take_of_length_le (by simp[hLn])
  by_cases h0:i=0
  ·have hsr:x04 (qT t) i=true:=by simp[x04,h0]
   have h0n: ¬0<i:=by omega
   simp[z07,h,sJob,h0n,hbN,hLn,hT]
   refine⟨t.queue.length - (i+1),by omega,i+1,by omega,rfl,hst hsr,?_⟩
   simp[w1,hT,z07]
   rw[← List.map_take,hLs]
   simp[rI]
  ·have h1:i - 1<t.queue.length:=by omega
   have h0'':0<i:=by omega
   have w2:IntKind.i64.wrap ((i:Int) - 1)=((i - 1:Nat):Int):=by rw[z08 (by omega) (by omega)]; omega
   have hqi1:(qT t).getD (i - 1) 0=t.queue[i - 1].ticket:=by simp[qT,List.getD,h1]
   simp[z07,h,sJob,h0'',w2,h1]
   by_cases c0:t.queue[i].ticket≤t.queue[i - 1].ticket
   ·have hsr:x04 (qT t) i=false:=by simp only[x04,hqi,hqi1]; simp[h0]; omega
    simp[c0,hff hsr]
   have hsr:x04 (qT t) i=true:=by simp only[x04,hqi,hqi1]; simp; omega
   simp[c0,hbN,hLn,hT]
   refine⟨t.queue.length - (i+1),by omega,i+1,by omega,rfl,hst hsr,?_⟩
   simp[w1,hT,z07]
   rw[← List.map_take,hLs]
   simp[rI]
 have:i=t.queue.length:=by omega
 subst this
 have ha1:=ha
 clear ha h hi
 have hqq:(qT t).take t.queue.length=qT t:=List.take_of_length_le (by simp[qT])
 simp[z07,hqq]
 refine z04 (fun n σ=>∃i:Nat,i≤t.out.length∧n=t.out.length - i∧allN (p3T t) i=true∧σ=⟨[(1,.one (.pt 10 1 [] 0 0)),(3,.one (.vw 3 1 3 [] 0 (t.queue.length+i))),(51,.one (.ar false 0 3 (t.out.map z0u))),(52,aI t.out.length),(53,aI i)],[(1,⟨42,10,[z07 t]⟩),(3,⟨3,1,(qT t ++ (oT t).take i).map rI⟩)]⟩) t.out.length ⟨0,by simp[z07,allN]⟩ ?_
 rintro n σ ⟨i,hi,rfl,ha,rfl⟩
 by_cases h:i<t.out.length
 ·have hqi:(oT t).getD i 0=t.out[i].ticket:=by simp[oT,List.getD,h]
  have hqj:t.out.getD i default=t.out[i]:=by simp[List.getD,h]
  have w1:IntKind.i64.wrap ((i:Int)+1)=i+1:=z08 (by omega) (by omega)
  have hff:p3T t i=false→x0e t=false:=fun hp=>by
   have:=s0f h hp
   unfold x0e
   rw[show (fun i=>x04 (oT t) i && inr (t.out.getD i default).code 0 6)=p3T t from rfl,this]; simp only[Bool.and_false,Bool.false_and]
  have hst:p3T t i=true→allN (p3T t) (i+1)=true:=fun hp=>by rw[v0a,ha,hp]; rfl
  have hLn:(qT t ++ (oT t).take i).length=t.queue.length+i:=by simp[qT,oT]; omega
  have hLs:qT t ++ (oT t).take (i+1)=(qT t ++ (oT t).take i) ++ [t.out[i].ticket]:=by
   rw[List.take_succ_eq_append_getElem (by simpa [oT] using h),List.append_assoc]; simp[oT]
  have hbN:t.queue.length+i+1≤4294967296:=by omega
  generalize qT t ++ (oT t).take i=L at *
  have hT:List.take (t.queue.length+i) (L.map rI)=L.map rI:=List.take_of_length_le (by simp[hLn])
  by_cases h0:i=0
  ·have hsr:x04 (oT t) i=true:=by simp[x04,h0]
   have h0n: ¬0<i:=by omega
   simp[z07,h,z0u,h0n,hbN,hLn,hT]
   refine⟨_,by simp,r04 _,?_⟩
   cases d1:inr t.out[i].code 0 6
   ·have:=hff (by unfold p3T; rw[hqj,d1]; simp only[Bool.and_false])
    simp[aS,v0n d1,this]
   ·have hp:p3T t i=true:=by unfold p3T; rw[hqj,d1,hsr]; rfl
    simp[aS,v0m d1,hbN,hLn,hT]
    refine⟨t.out.length - (i+1),by omega,i+1,by omega,rfl,hst hp,?_⟩
    simp[w1,hT,z07,Nat.add_assoc]
    rw[← List.map_take,← List.map_append,hLs]
    simp[rI]
  ·have h1:i - 1<t.out.length:=by omega
   have h0'':0<i:=by omega
   have w2:IntKind.i64.wrap ((i:Int) - 1)=((i - 1:Nat):Int):=by rw[z08 (by omega) (by omega)]; omega
   have hqi1:(oT t).getD (i - 1) 0=t.out[i - 1].ticket:=by simp[oT,List.getD,h1]
   simp[z07,h,z0u,h0'',w2,h1]
   by_cases c0:t.out[i].ticket≤t.out[i - 1].ticket
   ·have hsr:x04 (oT t) i=false:=by simp only[x04,hqi,hqi1]; simp[h0]; omega
    have:=hff (by unfold p3T; rw[hsr]; rfl)
    simp[c0,this]
   have hsr:x04 (oT t) i=true:=by simp only[x04,hqi,hqi1]; simp; omega
   simp[c0,hbN,hLn,hT]
   refine⟨_,by simp,r04 _,?_⟩
   cases d1:inr t.out[i].code 0 6
   ·have:=hff (by unfold p3T; rw[hqj,d1]; simp only[Bool.and_false])
    simp[aS,v0n d1,this]
   ·have hp:p3T t i=true:=by unfold p3T; rw[hqj,d1,hsr]; rfl
    simp[aS,v0m d1,hbN,hLn,hT]
    refine⟨t.out.length - (i+1),by omega,i+1,by omega,rfl,hst hp,?_⟩
    simp[w1,hT,z07,Nat.add_assoc]
    rw[← List.map_take,← List.map_append,hLs]
    simp[rI]
 have:i=t.out.length:=by omega
 subst this
 have ha2:=ha
 clear ha h hi
 have hoo:(oT t).take t.out.length=oT t:=List.take_of_length_le (by simp[oT])
 rw[hoo]
 obtain⟨N,hN⟩: ∃N:Nat,(N:Int)=t.next - t.due:=⟨(t.next - t.due).toNat,by omega⟩
 have hN2:(t.next - t.due).toNat=N:=by omega
 have hl:(qT t ++ oT t).length=t.queue.length+t.out.length:=by simp[qT,oT]
 have hp4:(fun k:Nat=>decide (t.due+(k:Int)∈qT t ++ oT t))=p4T t:=rfl
 have hTT:List.take (t.queue.length+t.out.length) ((qT t ++ oT t).map rI)=(qT t ++ oT t).map rI:=List.take_of_length_le (by rw[List.length_map,hl]; exact Nat.le_refl _)
 have hct: ∀x,z06 Tryz.prog 81 [.one (.ar false 0 1 ((qT t ++ oT t).map rI)),aI x] (aB (decide (x∈qT t ++ oT t))):=fun x=>n0e _ x (by rw[hl]; omega)
 have hdef: ∀k:Nat,p4T t k=decide (t.due+(k:Int)∈qT t ++ oT t):=fun _=>rfl
 have hfN: ∀{i},i<N→p4T t i=false→x0e t=false:=fun h hp=>by
  have:=s0f h hp
  unfold x0e
  rw[hN2,hp4,this]; simp only[Bool.and_false]
 have hfin0:allN (p4T t) N=true→x0e t=true:=fun ha=>by
  unfold x0e
  rw[hN2,hp4,ha,ha1,show (fun i=>x04 (oT t) i && inr (t.out.getD i default).code 0 6)=p3T t from rfl,ha2]
  simp[g5]
 clear hp4
 generalize qT t ++ oT t=L at *
 simp[z07]
 refine z04 (fun n σ=>∃i:Nat,i≤N∧n=N - i∧allN (p4T t) i=true∧σ=⟨[(1,.one (.pt 10 1 [] 0 0)),(3,.one (.vw 3 1 3 [] 0 (t.queue.length+t.out.length))),(8,aI (t.due+i))],[(1,⟨42,10,[z07 t]⟩),(3,⟨3,1,L.map rI⟩)]⟩) N ⟨0,by simp[z07,allN]⟩ ?_
 rintro n σ ⟨i,hi,rfl,ha,rfl⟩
 by_cases h:i<N
 ·have h':t.due+(i:Int)<t.next:=by omega
  have w1:IntKind.i64.wrap (t.due+(i:Int)+1)=t.due+(i+1:Nat):=by rw[wn (by omega) (by omega)]; omega
  simp[z07,h',hTT,hl, -Int.natCast_add]
  refine z00 (hct _) (by simp) ?_
  cases c:decide (t.due+(i:Int)∈L)
  ·have:=hfN h (by rw[hdef,c])
   simp[this]
  ·simp
   refine⟨N - (i+1),by omega,i+1,by omega,rfl,by rw[v0a,ha,hdef,c]; rfl,?_⟩
   rw[w1]
 have:i=N:=by omega
 subst this
 have h': ¬(t.due+(i:Int)<t.next):=by omega
 have hfin:=hfin0 ha
 simp[z07,h',hfin]
end
section
attribute [-simp] z03 z05 z02
def d19:K:=dc 0x104ec1041005401402e4f0043c5003043104e8104101a09a649658502baa1585c10c25d65431d61405410144c10c24d24431d214044000a28020004500018338238d2cd10d30330000b1401010000371410041410031c0145039041040003104e8104100a08a2473042480c80401c60c600014100013a041040
def l1x:Nat×List RV:=(27,[.t 4])
theorem c_163:z01 PA 163 l1x d19:=by unfold z01; kernel_rfl
theorem v13 (xs:List TLine) (hx:wL x08 xs<2 ^ 40):z06 Tryz.prog 163 [.one (.ar false 0 3 (xs.map y0x)),.one (.ar false 0 3 (xs.map y0x))] (aB true):=by
 refine Prun c_163 (by simp[l1x]) (by simp) ?_
 (conv in d19=>reduce); unfold l1x
 have hlen:=z0a x08 xs
 simp
 refine z04 (fun n σ=>∃i:Nat,i≤xs.length∧n=xs.length - i∧σ=⟨[(0,.one (.ar false 0 3 (xs.map y0x))),(1,.one (.ar false 0 3 (xs.map y0x))),(5,aI i)],[]⟩) (xs.length) ⟨0,by simp⟩ ?_
 rintro n σ ⟨i,hi,rfl,rfl⟩
 by_cases h:i<xs.length
 ·have hw:=z0x x08 xs i h
  simp[h,y0x]
  refine⟨_,by simp,r1r xs[i] (by omega),?_⟩
  simp
  refine⟨xs.length - (i+1),by omega,i+1,by omega,rfl,?_⟩
  rw[z08 (by omega) (by omega)]
  simp
 ·simp[h]
end
section
attribute [-simp] z03 z05 z02
def d1t:K:=dc 0x4111051040081003104079041040402400e4f3443c100204000138138d30202b14d04030b00108b0821850400c4101e4104100a08a03924d1090400810000480481c6080ac51c10061400421420061410040390420033eb202040
def k1h:Nat×List RV:=(18,[.t 4])
theorem c_196:z01 PA 196 k1h d1t:=by unfold z01; kernel_rfl
theorem q16 (a:TLine) (left:Int) (h:y1g a) (h2:0≤left) (h3:left<2 ^ 40):z06 Tryz.prog 196 [.agg (y0x a),aI left] (aI (lft left (x08 a))):=by
 refine Prun c_196 (by simp[k1h]) (by simp) ?_
 (conv in d1t=>reduce); unfold k1h
 simp only[y1g] at h
 simp only[x08]
 obtain⟨hl0,hl1⟩:=h
 simp[y0x]
 refine z00 (f06 a.frm (left) hl0 (by omega) (by omega)) (by simp) ?_
 by_cases g0:left<(wL y0f a.frm:Int)
 case pos=>simp only[z0j g0]; simp; try rw[z0j (by omega)]
 simp only[z0w (show (wL y0f a.frm:Int)≤left by omega)]
 have n0: ¬left - (wL y0f a.frm:Int)<0:=by omega
 simp[n0]
 refine z00 (f06 a.too (left - (wL y0f a.frm:Int)) hl1 (by omega) (by omega)) (by simp) ?_
 by_cases g1:left - (wL y0f a.frm:Int)<(wL y0f a.too:Int)
 case pos=>simp only[z0j g1]; simp; try rw[z0j (by omega)]
 simp only[z0w (show (wL y0f a.too:Int)≤left - (wL y0f a.frm:Int) by omega)]
 have n1: ¬left - (wL y0f a.frm:Int) - (wL y0f a.too:Int)<0:=by omega
 simp[n1]
 try rw[z0w (by omega)]
 try omega
end
section
attribute [-simp] z03 z05 z02
def k_98:K:=dc 0x4111051040081003104079041040402400e4f3443c100204000138138d302b6914d04030b00108b0891850400c4101e4104100a08a03924d1090400810000480481c60aca451c100614004214220614100403904200ab69202040
def r_98:Nat×List RV:=(18,[.t 4])
theorem c_98:z01 PA 98 r_98 k_98:=by unfold z01; kernel_rfl
theorem y1a (a:TTenant) (left:Int) (h:q0r a) (h2:0≤left) (h3:left<2 ^ 40):z06 Tryz.prog 98 [.agg (z07 a),aI left] (aI (lft left (y0b a))):=by
 refine Prun c_98 (by simp[r_98]) (by simp) ?_
 (conv in k_98=>reduce); unfold r_98
 simp only[q0r] at h
 simp only[y0b]
 obtain⟨hl0,hl1⟩:=h
 simp[z07]
 refine z00 (q15 a.queue (left) hl0 (by omega) (by omega)) (by simp) ?_
 by_cases g0:left<(wL wJob a.queue:Int)
 case pos=>simp only[z0j g0]; simp; try rw[z0j (by omega)]
 simp only[z0w (show (wL wJob a.queue:Int)≤left by omega)]
 have n0: ¬left - (wL wJob a.queue:Int)<0:=by omega
 simp[n0]
 refine z00 (f07 a.out (left - (wL wJob a.queue:Int)) hl1 (by omega) (by omega)) (by simp) ?_
 by_cases g1:left - (wL wJob a.queue:Int)<(wL y06 a.out:Int)
 case pos=>simp only[z0j g1]; simp; try rw[z0j (by omega)]
 simp only[z0w (show (wL y06 a.out:Int)≤left - (wL wJob a.queue:Int) by omega)]
 have n1: ¬left - (wL wJob a.queue:Int) - (wL y06 a.out:Int)<0:=by omega
 simp[n1]
 try rw[z0w (by omega)]
 try omega
end
section
attribute [-simp] z03 z05 z02
def f1y:K:=dc 0x490200a2fc90304a0820408a30012fc8c32468a1074a458600010a004918504079f0012fc7c320679d073a4575c00109c04818504069b0012fc6c31c66990010990471840405d80012fc6031865d60010960461840405150012fc5431465130010930451840404520012fc48310645000109004418404038f0012fc3c30c638d00108d0431840402cc0012fc3030862ca00108a0421840402090012fc2430462070010870411840401460012fc1830061440010840401840400c3268043297a010c000000000000000000000000000000000000a282a120410020c9a010ca5e804300000000000000000000000000000000000028a0a848100ab69202040
def m1m:Nat×List RV:=(37,[.c 2 10 true])
theorem c_104:z01 PA 104 m1m f1y:=by unfold z01; kernel_rfl
theorem y1d (a:TTenant) (ha:y0b a<2 ^ 31):z06 Tryz.prog 104 [.agg (z07 a)] (.agg (v04 a)):=by
 refine Prun c_104 (by simp[m1m]) (by simp) ?_
 (conv in f1y=>reduce); unfold m1m
 simp only[y0b] at ha
 simp[z07]
 refine z00 (q1c a.queue (by omega)) (by simp) ?_
 simp
 refine z00 (f09 a.out (by omega)) (by simp) ?_
 simp[v04]
end
end Go.Am
