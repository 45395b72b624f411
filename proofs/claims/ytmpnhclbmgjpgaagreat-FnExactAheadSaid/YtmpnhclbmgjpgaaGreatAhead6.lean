/- Text 6 for FnExactAhead. -/
import Derived.Test.YtmpnhclbmgjpgaaGreatAhead4
set_option linter.unusedVariables false
set_option linter.unusedSimpArgs false
namespace Go.Am
open Go.Proofs
set_option maxHeartbeats 4000000
set_option maxRecDepth 100000
attribute [-simp] BitVec.toNat_or BitVec.toNat_and BitVec.toNat_ofInt
section
def iter {α:Type} (f:α→α):Nat→α→α
 | 0,a=>a
 | n+1,a=>f (iter f n a)
theorem s0i {α:Type} {f:α→α} {a:α} {m:Nat} (h:f (iter f m a)=iter f m a): ∀k,m≤k→iter f k a=iter f m a
 | 0,hk=>by rw[show m=0 from by omega]
 | k+1,hk=>by
   by_cases e:m=k+1
   ·rw[e]
   ·have:=s0i h k (by omega)
    simp only[iter,this,h]
def pop (f:Nat):Nat→Nat
 | 0=>0
 | n+1=>pop f n+(if f.testBit n then 1 else 0)
theorem l04 (f:Nat): ∀n,pop f n≤n
 | 0=>Nat.le_refl _
 | n+1=>by
   have:=l04 f n
   simp only[pop]; split <;> omega
def sub (f g:Nat):Prop:=∀i,f.testBit i=true→g.testBit i=true
theorem x02 (f:Nat):sub f f:=fun _ h=>h
theorem w06 {f g h:Nat} (h1:sub f g) (h2:sub g h):sub f h:=fun i hi=>h2 i (h1 i hi)
theorem a0i {f g:Nat} (h:sub f g): ∀n,pop f n≤pop g n
 | 0=>Nat.le_refl _
 | n+1=>by
   have:=a0i h n
   simp only[pop]
   by_cases hb:f.testBit n=true
   ·rw[if_pos hb,if_pos (h n hb)]; omega
   ·rw[if_neg hb]; split <;> omega
theorem a0h {f g:Nat} (h:sub f g) {n i:Nat} (hi:i<n) (hf:f.testBit i=false) (hg:g.testBit i=true):pop f n<pop g n:=by
 induction n with
 | zero=>omega
 | succ n ih=>
   simp only[pop]
   by_cases e:i=n
   ·subst e
    have:=a0i h i
    rw[hf,hg]; simp; omega
   ·have:=ih (by omega)
    by_cases hb:f.testBit n=true
    ·rw[if_pos hb,if_pos (h n hb)]; omega
    ·rw[if_neg hb]; split <;> omega
theorem b0j {f n i:Nat} (hf:f<2 ^ n) (h:f.testBit i=true):i<n:=by
 rcases Nat.lt_or_ge i n with h1 | h1
 ·exact h1
 ·have:f<2 ^ i:=Nat.lt_of_lt_of_le hf (Nat.pow_le_pow_right (by omega) h1)
  rw[Nat.testBit_lt_two_pow this] at h; cases h
theorem o1f {f g n:Nat} (h:sub f g) (hg:g<2 ^ n) (hne:g≠f): ∃i,i<n∧f.testBit i=false∧g.testBit i=true:=by
 apply Classical.byContradiction
 intro hc
 apply hne
 apply Nat.eq_of_testBit_eq
 intro i
 cases hb:g.testBit i with
 | true=>
   cases hf:f.testBit i with
   | true=>rfl
   | false=>exact (hc ⟨i,b0j hg hb,hf,hb⟩).elim
 | false=>
   cases hf:f.testBit i with
   | true=>rw[h i hf] at hb; cases hb
   | false=>rfl
theorem w1u {p:Nat→Nat} {n a:Nat} (hs: ∀f,f<2 ^ n→sub f (p f)) (hb: ∀f,f<2 ^ n→p f<2 ^ n) (ha:a<2 ^ n):p (iter p n a)=iter p n a:=by
 have hlt: ∀k,iter p k a<2 ^ n:=fun k=>by
  induction k with
  | zero=>exact ha
  | succ k ih=>exact hb _ ih
 have key: ∀k,(p (iter p k a)=iter p k a)∨k+1≤pop (iter p (k+1) a) n:=fun k=>by
  induction k with
  | zero=>
    by_cases e:p (iter p 0 a)=iter p 0 a
    ·exact .inl e
    ·right
     obtain⟨i,h1,h2,h3⟩:=o1f (hs _ (hlt 0)) (hlt 1) e
     have:=a0h (hs _ (hlt 0)) h1 h2 h3
     simp only[iter] at this ⊢; omega
  | succ k ih=>
    rcases ih with e | ih
    ·left; simp only[iter] at e ⊢; rw[e,e]
    by_cases e:p (iter p (k+1) a)=iter p (k+1) a
    ·exact .inl e
    ·right
     obtain⟨i,h1,h2,h3⟩:=o1f (hs _ (hlt (k+1))) (hlt (k+2)) e
     have:=a0h (hs _ (hlt (k+1))) h1 h2 h3
     simp only[iter] at this ih ⊢; omega
 rcases key n with h | h
 ·exact h
 ·have:=l04 (iter p (n+1) a) n; omega
def z0s (f:Nat):Nat→List Int
 | 0=>[]
 | n+1=>z0s f n ++ (if f.testBit n then [(n:Int)] else [])
theorem p09 (f:Nat): ∀n,(z0s f n).length=pop f n
 | 0=>rfl
 | n+1=>by simp only[z0s,pop,List.length_append,p09 f n]; split <;> simp
theorem r05 {f:Nat} {x:Int}: ∀{n:Nat},x∈z0s f n↔0≤x∧x<n∧f.testBit x.toNat=true
 | 0=>by simp[z0s]; omega
 | n+1=>by
   simp only[z0s,List.mem_append,r05 (n:=n)]
   by_cases hb:f.testBit n=true
   ·rw[if_pos hb,List.mem_singleton]
    constructor
    ·rintro (⟨h1,h2,h3⟩ | rfl)
     ·exact⟨h1,by omega,h3⟩
     ·exact⟨by omega,by omega,by simpa using hb⟩
    ·rintro⟨h1,h2,h3⟩
     by_cases e:x=n
     ·exact .inr e
     ·exact .inl ⟨h1,by omega,h3⟩
   ·rw[if_neg hb]
    constructor
    ·rintro (⟨h1,h2,h3⟩ | h)
     ·exact⟨h1,by omega,h3⟩
     ·cases h
    ·rintro⟨h1,h2,h3⟩
     by_cases e:x=n
     ·subst e; exact absurd (by simpa using h3) hb
     ·exact .inl ⟨h1,by omega,h3⟩
theorem s0g {f g:Nat}: ∀{n:Nat},(∀i,i<n→f.testBit i=g.testBit i)→z0s f n=z0s g n
 | 0,_=>rfl
 | n+1,h=>by rw[z0s,z0s,s0g fun i hi=>h i (by omega),h n (by omega)]
theorem r0s (y:Int) (r:List Int) (x:Int):s0u (y :: r) x=if x<y then 0 else s0u r x+1:=by
 unfold s0u
 rw[List.findIdx_cons]
 by_cases h:x<y <;> simp[h]
theorem f0c {x:Int}: ∀{l t:List Int},(∀y∈t,x<y)→s0u (l ++ t) x=s0u l x
 | [],[],_=>rfl
 | [],y :: t,h=>by
   rw[List.nil_append,r0s,if_pos (h y (List.mem_cons_self ..))]; rfl
 | y :: l,t,h=>by rw[List.cons_append,r0s,r0s,f0c h]
theorem f0d {x:Int}: ∀{l:List Int},(∀y∈l,¬x<y)→s0u l x=l.length
 | [],_=>rfl
 | y :: l,h=>by rw[r0s,if_neg (h y (List.mem_cons_self ..)),f0d fun z hz=>h z (List.mem_cons_of_mem _ hz)]; rfl
theorem c07 (l:List Int) (x:Int):s0u l x≤l.length:=List.findIdx_le_length
theorem x12 {x:Int} {l t:List Int} (h: ∀y∈t,x<y):v0h (l ++ t) x=v0h l x ++ t:=by
 unfold v0h
 have hx:x ∉ t:=fun hm=>by have:=h x hm; omega
 by_cases hl:x∈l
 ·rw[if_pos (List.mem_append_left _ hl),if_pos hl]
 ·rw[if_neg (by simp[hl,hx]),if_neg hl,f0c h]
  have:=c07 l x
  rw[List.take_append_of_le_length this,List.drop_append_of_le_length this]
  simp
theorem w0j {f x:Nat}: ∀{n:Nat},x<n→v0h (z0s f n) x=z0s (f ||| 2 ^ x) n
 | 0,h=>by omega
 | n+1,h=>by
   by_cases e:x=n
   ·subst e
    have hlow:z0s (f ||| 2 ^ x) x=z0s f x:=s0g fun i hi=>by
     rw[Nat.testBit_or,Nat.testBit_two_pow_of_ne (by omega),Bool.or_false]
    have hxb:(f ||| 2 ^ x).testBit x=true:=by rw[Nat.testBit_or,Nat.testBit_two_pow_self,Bool.or_true]
    rw[z0s,z0s,hlow,hxb]
    by_cases hb:f.testBit x=true
    ·rw[if_pos hb,if_pos rfl]
     unfold v0h
     rw[if_pos (by simp)]
    ·rw[if_neg hb,if_pos rfl,List.append_nil]
     unfold v0h
     have hall: ∀y∈z0s f x,¬(x:Int)<y:=fun y hy=>by have:=r05.1 hy; omega
     rw[if_neg (fun hm=>by have:=r05.1 hm; omega),f0d hall]
     simp
   ·have hx:x<n:=by omega
    have hn:(f ||| 2 ^ x).testBit n=f.testBit n:=by rw[Nat.testBit_or,Nat.testBit_two_pow_of_ne (by omega),Bool.or_false]
    rw[z0s,z0s,hn,x12,w0j hx]
    intro y hy
    split at hy
    ·rw[List.mem_singleton] at hy; omega
    ·cases hy
theorem m0t {N:Nat}: ∀(n:Nat) (f g:Nat),n≤N→(z0s g n).foldl v0h (z0s f N)=z0s (f ||| (g % 2 ^ n)) N
 | 0,f,g,_=>by simp[z0s,Nat.mod_one]
 | n+1,f,g,h=>by
   rw[z0s,List.foldl_append,m0t n f g (by omega)]
   by_cases hb:g.testBit n=true
   ·rw[if_pos hb,List.foldl_cons,List.foldl_nil,w0j (by omega)]
    apply s0g
    intro i hi
    simp only[Nat.testBit_or,Nat.testBit_mod_two_pow]
    by_cases e:i=n
    ·subst e; simp[hb,Nat.testBit_two_pow_self]
    ·rw[Nat.testBit_two_pow_of_ne (by omega)]
     by_cases h1:i<n
     ·simp[h1,show i<n+1 by omega]
     ·simp[h1,show ¬i<n+1 by omega]
   ·rw[if_neg hb,List.foldl_nil]
    apply s0g
    intro i hi
    simp only[Nat.testBit_or,Nat.testBit_mod_two_pow]
    by_cases e:i=n
    ·subst e; simp[Bool.eq_false_iff.2 hb]
    ·by_cases h1:i<n
     ·simp[h1,show i<n+1 by omega]
     ·simp[h1,show ¬i<n+1 by omega]
theorem q1y {f n:Nat} (hf:f<2 ^ n):pop f n=n↔f=2 ^ n - 1:=by
 constructor
 ·intro h
  apply Nat.eq_of_testBit_eq
  intro i
  rw[Nat.testBit_two_pow_sub_one]
  by_cases hi:i<n
  ·rw[decide_eq_true hi]
   cases hb:f.testBit i with
   | true=>rfl
   | false=>
     have hs:sub f (2 ^ n - 1):=fun j hj=>by rw[Nat.testBit_two_pow_sub_one]; exact decide_eq_true (b0j hf hj)
     have:=a0h hs hi hb (by rw[Nat.testBit_two_pow_sub_one]; exact decide_eq_true hi)
     have:=l04 (2 ^ n - 1) n
     omega
  ·rw[decide_eq_false hi]
   exact Nat.testBit_lt_two_pow (Nat.lt_of_lt_of_le hf (Nat.pow_le_pow_right (by omega) (by omega)))
 ·rintro rfl
  have: ∀m,m≤n→pop (2 ^ n - 1) m=m:=fun m=>by
   induction m with
   | zero=>intro _; rfl
   | succ m ih=>intro h; rw[pop,ih (by omega),Nat.testBit_two_pow_sub_one,decide_eq_true (by omega:m<n)]; rfl
  exact this n (Nat.le_refl _)
end
section
def c1o:K:=dc 0x411a05a040081005441442e50004405003043104079041040642640e583446010020400570575950a4ac55810155010825134821d31404800070400450001833c23ce30d10e34334000c1401010000371410041410031c01450390410400031040790410402c22c0e4a3442810020400012412481811081c31c0006040141004039041040
def j1a:Nat×List RV:=(27,[.t 4])
theorem c_232:z01 PA 232 j1a c1o:=by unfold z01; kernel_rfl
theorem f06 (xs:List TConf) (left:Int) (hl:lL f0j xs) (h2:0≤left) (h3:left<2 ^ 40):z06 Tryz.prog 232 [.one (.ar false 0 2 (xs.map z0k)),aI left] (aI (lft left (wL y0f xs))):=by
 refine Prun c_232 (by simp[j1a]) (by simp) ?_
 (conv in c1o=>reduce); unfold j1a
 have hlen:=hl.1
 have hlw:=z0a y0f xs
 have w1:IntKind.i64.wrap (left - xs.length)=left - xs.length:=z08 (by omega) (by omega)
 by_cases h1:left - (xs.length:Int)<0
 ·rw[z0j (by omega)]
  simp[w1,h1]
 simp[w1,h1]
 refine z04 (fun n σ=>∃i:Nat,i≤xs.length∧n=xs.length - i∧(wL y0f (xs.take i):Int) - i≤left - xs.length∧σ=⟨[(0,.one (.ar false 0 2 (xs.map z0k))),(1,aI (left - xs.length - ((wL y0f (xs.take i):Int) - i))),(5,aI i)],[]⟩) (xs.length) ⟨0,by simp[wL]; omega⟩ ?_
 rintro n σ ⟨i,hi,rfl,hle,rfl⟩
 have hge:=z0a y0f (xs.take i)
 rw[List.length_take,Nat.min_eq_left hi] at hge
 by_cases h:i<xs.length
 ·have hst:=t0z y0f h
  have hle2:=x0h y0f xs (i+1)
  have hlen2:=z0a y0f (xs.drop (i+1))
  have happ:=z0y y0f (xs.take (i+1)) (xs.drop (i+1))
  rw[List.take_append_drop] at happ
  rw[List.length_drop] at hlen2
  simp[h,z0k]
  refine z00 (q12 xs[i] _ (hl.2 i h) (by omega) (by omega)) (by simp) ?_
  generalize hv:left - (xs.length:Int) - ((wL y0f (xs.take i):Int) - i)=v at *
  by_cases h4:v<(y0f xs[i]:Int)
  ·simp only[z0j h4]
   rw[z0j (by omega)]
   simp
  ·have e:lft v (y0f xs[i])=v - y0f xs[i]:=z0w (by omega)
   have n1: ¬v - (y0f xs[i]:Int)<0:=by omega
   simp[e,n1]
   refine⟨xs.length - (i+1),by omega,i+1,by omega,rfl,by omega,?_⟩
   rw[z08 (by omega) (by omega)]
   simp; omega
 ·have:i=xs.length:=by omega
  subst this
  rw[List.take_length] at hle
  rw[z0w (by omega)]
  simp
  omega
end
end Go.Am
