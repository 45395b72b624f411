/- Text 22 for FnExactAhead. -/
import Derived.Test.YtmpnhclbmgjpgaaGreatAhead21
set_option linter.unusedVariables false
set_option linter.unusedSimpArgs false
namespace Go.Am
open Go.Proofs
set_option maxHeartbeats 4000000
set_option maxRecDepth 100000
attribute [-simp] BitVec.toNat_or BitVec.toNat_and BitVec.toNat_ofInt
section
attribute [-simp] z03 z05 z02
inductive Tch (ps:List (List (List Int))) (w:List Int):List Int→Nat→Nat→Prop
 | here {row i}:i≤w.length→Tch ps w row i i
 | lit {x row i m}:x<100→(h:i<w.length)→w[i]=x→Tch ps w row (i+1) m→Tch ps w (x :: row) i m
 | part {x row al i j m}:100≤x→al∈ps.getD (prt x) []→Drv ps w al i j→Tch ps w row j m→Tch ps w (x :: row) i m
 | inn {x row al i m}:100≤x→al∈ps.getD (prt x) []→Tch ps w al i m→Tch ps w (x :: row) i m
section
variable {ps:List (List (List Int))} {w:List Int}
theorem Tch.le {row:List Int} {i m:Nat} (h:Tch ps w row i m):i≤m∧m≤w.length:=by
 induction h with
 | here h=>exact⟨Nat.le_refl _,h⟩
 | lit _ _ _ _ ih=>omega
 | part _ _ hd _ ih=>have:=hd.le; omega
 | inn _ _ _ ih=>exact ih
theorem i0n {row:List Int} {i j:Nat} (h:Drv ps w row i j):Tch ps w row i j:=by
 induction h with
 | nil h=>exact .here h
 | lit hx h e _ ih=>exact .lit hx h e ih
 | part hx hal h1 _ _ ih2=>exact .part hx hal h1 ih2
theorem s1m {r1 r2:List Int} {i m:Nat} (h:Tch ps w r1 i m):Tch ps w (r1 ++ r2) i m:=by
 induction h with
 | here h=>exact .here h
 | lit hx h e _ ih=>exact .lit hx h e ih
 | part hx hal h1 _ ih=>exact .part hx hal h1 ih
 | inn hx hal h1 _=>exact .inn hx hal h1
theorem d0n {r1 r2:List Int} {i j m:Nat} (h:Drv ps w r1 i j) (h2:Tch ps w r2 j m):Tch ps w (r1 ++ r2) i m:=by
 induction h with
 | nil h=>exact h2
 | lit hx h e _ ih=>exact .lit hx h e (ih h2)
 | part hx hal h1 _ _ ih=>exact .part hx hal h1 (ih h2)
theorem o06 {r2:List Int} {m:Nat}: ∀{r1:List Int} {i:Nat},Tch ps w (r1 ++ r2) i m→Tch ps w r1 i m∨∃j,Drv ps w r1 i j∧Tch ps w r2 j m
 | [],i,h=> .inr ⟨i,.nil (by have:=h.le; omega),h⟩
 | x :: r1,i,h=>by
   cases h with
   | here h=>exact .inl (.here h)
   | lit hx hi e h=>
     rcases o06 h with h | ⟨j,h1,h2⟩
     ·exact .inl (.lit hx hi e h)
     ·exact .inr ⟨j,.lit hx hi e h1,h2⟩
   | part hx hal h0 h=>
     rcases o06 h with h | ⟨j,h1,h2⟩
     ·exact .inl (.part hx hal h0 h)
     ·exact .inr ⟨j,.part hx hal h0 h1,h2⟩
   | inn hx hal h=>exact .inl (.inn hx hal h)
theorem z1b {r1 r2:List Int} {i m:Nat}:Tch ps w (r1 ++ r2) i m↔Tch ps w r1 i m∨∃j,Drv ps w r1 i j∧Tch ps w r2 j m:=
 ⟨o06,fun h=>h.elim s1m fun ⟨_,h1,h2⟩=>d0n h1 h2⟩
theorem p0b {r1 r2:List Int} {i m:Nat}:Drv ps w (r1 ++ r2) i m↔∃j,Drv ps w r1 i j∧Drv ps w r2 j m:=
 ⟨Drv.split,fun ⟨_,h1,h2⟩=>h1.app h2⟩
theorem q0k {i j:Nat}:Drv ps w [] i j↔i=j∧i≤w.length:=⟨fun h=>by cases h with | nil h=>exact⟨rfl,h⟩,fun ⟨h,h2⟩=>by subst h; exact .nil h2⟩
theorem g00 {i j:Nat}:Tch ps w [] i j↔i=j∧i≤w.length:=⟨fun h=>by cases h with | here h=>exact⟨rfl,h⟩,fun ⟨h,h2⟩=>by subst h; exact .here h2⟩
theorem m06 {x:Int} {i j:Nat} (hx:x<100):Drv ps w [x] i j↔j=i+1∧w[i]?=some x:=by
 constructor
 ·intro h
  cases h with
  | lit _ hi e h=>obtain⟨rfl,_⟩:=q0k.1 h; exact⟨rfl,by rw[List.getElem?_eq_getElem hi,e]⟩
  | part h=>omega
 ·rintro⟨rfl,h⟩
  obtain⟨hi,e⟩:=List.getElem?_eq_some_iff.1 h
  exact .lit hx hi e (.nil hi)
theorem h0z {x:Int} {i j:Nat} (hx:x<100) (hi:i≤w.length):Tch ps w [x] i j↔j=i∨(j=i+1∧w[i]?=some x):=by
 constructor
 ·intro h
  cases h with
  | here=>exact .inl rfl
  | lit _ hi e h=>obtain⟨rfl,_⟩:=g00.1 h; exact .inr ⟨rfl,by rw[List.getElem?_eq_getElem hi,e]⟩
  | part h=>omega
  | inn h=>omega
 ·rintro (rfl | h)
  ·exact .here hi
  ·exact i0n ((m06 hx).2 h)
theorem b0q {x:Int} {i j:Nat} (hx:100≤x):Drv ps w [x] i j↔∃al∈ps.getD (prt x) [],Drv ps w al i j:=by
 constructor
 ·intro h
  cases h with
  | lit h=>omega
  | part _ hal h1 h2=>obtain⟨rfl,_⟩:=q0k.1 h2; exact⟨_,hal,h1⟩
 ·rintro⟨al,hal,h⟩
  exact .part hx hal h (.nil h.le.2)
theorem z1a {x:Int} {i j:Nat} (hx:100≤x) (hi:i≤w.length):Tch ps w [x] i j↔j=i∨∃al∈ps.getD (prt x) [],Tch ps w al i j:=by
 constructor
 ·intro h
  cases h with
  | here=>exact .inl rfl
  | lit h=>omega
  | part _ hal h1 h2=>obtain⟨rfl,_⟩:=g00.1 h2; exact .inr ⟨_,hal,i0n h1⟩
  | inn _ hal h=>exact .inr ⟨_,hal,h⟩
 ·rintro (rfl | ⟨al,hal,h⟩)
  ·exact .here hi
  ·exact .inn hx hal h
theorem p1k {r1 r2:List Int} {i m:Nat} (h: ∀j,¬Drv ps w r1 i j):Tch ps w (r1 ++ r2) i m↔Tch ps w r1 i m:=
 ⟨fun h2=>(o06 h2).elim id fun ⟨j,h1,_⟩=>absurd h1 (h j),s1m⟩
theorem r1b {r1 r2:List Int} {i m:Nat} (h: ∀j,¬Drv ps w r1 i j): ¬Drv ps w (r1 ++ r2) i m:=fun h2=>by
 obtain⟨j,h1,_⟩:=h2.split
 exact h j h1
end
def IsFar (S:Nat→Prop) (f:Nat):Prop:=S f∧∀m,S m→m≤f
theorem IsFar.uniq {S:Nat→Prop} {f g:Nat} (h:IsFar S f) (k:IsFar S g):f=g:=Nat.le_antisymm (k.2 _ h.1) (h.2 _ k.1)
theorem IsFar.congr {S T:Nat→Prop} {f:Nat} (h:IsFar S f) (e: ∀m,T m↔S m):IsFar T f:=⟨(e f).2 h.1,fun m hm=>h.2 m ((e m).1 hm)⟩
theorem IsFar.max {S T:Nat→Prop} {f g:Nat} (h:IsFar S f) (k:IsFar T g):IsFar (fun m=>S m∨T m) (Nat.max f g):=by
 refine⟨?_,fun m hm=>?_⟩
 ·rcases Nat.le_total f g with hle | hle
  ·rw[show Nat.max f g=g from Nat.max_eq_right hle]; exact .inr k.1
  ·rw[show Nat.max f g=f from Nat.max_eq_left hle]; exact .inl h.1
 ·rcases hm with hm | hm
  ·exact Nat.le_trans (h.2 m hm) (Nat.le_max_left _ _)
  ·exact Nat.le_trans (k.2 m hm) (Nat.le_max_right _ _)
def Spr (ps:List (List (List Int))) (w:List Int) (row:List Int) (at' E f:Nat):Prop:=E<2 ^ 11∧(∀j,E.testBit j=true↔Drv ps w row at' j)∧IsFar (Tch ps w row at') f
theorem Spr.uniq {ps:List (List (List Int))} {w row:List Int} {a E f E' f':Nat} (h:Spr ps w row a E f) (k:Spr ps w row a E' f'):E=E'∧f=f':=by
 refine⟨Nat.eq_of_testBit_eq fun j=>?_,h.2.2.uniq k.2.2⟩
 rw[Bool.eq_iff_iff,h.2.1,k.2.1]
theorem Spr.far_le {ps:List (List (List Int))} {w row:List Int} {a E f:Nat} (h:Spr ps w row a E f):a≤f∧f≤w.length:=h.2.2.1.le
theorem o1i {i:Nat} (h:i≤10):2 ^ i<2 ^ 11:=Nat.pow_lt_pow_right (by omega) (by omega)
theorem h1n {ps:List (List (List Int))} {w:List Int} {a:Nat} (ha:a≤w.length) (hw:w.length≤10):Spr ps w [] a (2 ^ a) a:=by
 refine⟨o1i (by omega),fun j=>?_,⟨.here ha,fun m hm=>by obtain⟨rfl,_⟩:=g00.1 hm; exact Nat.le_refl _⟩⟩
 rw[q0k,Nat.testBit_two_pow]
 simp[ha]
theorem h1m {ps:List (List (List Int))} {w:List Int} {x:Int} {a:Nat} (hx:x<100) (ha:a<w.length) (hw:w.length≤10) (e:w[a]=x):Spr ps w [x] a (2 ^ (a+1)) (a+1):=by
 have hg:w[a]?=some x:=by rw[List.getElem?_eq_getElem ha,e]
 refine⟨o1i (by omega),fun j=>?_,?_,fun m hm=>?_⟩
 ·rw[m06 hx,Nat.testBit_two_pow]
  simp[hg]
  omega
 ·exact (h0z hx (by omega)).2 (.inr ⟨rfl,hg⟩)
 ·rcases (h0z hx (by omega)).1 hm with h | h <;> omega
theorem s1f {ps:List (List (List Int))} {w:List Int} {x:Int} {a:Nat} (hx:x<100) (ha:a≤w.length) (e:w[a]?≠some x):Spr ps w [x] a 0 a:=by
 refine⟨by omega,fun j=>?_,?_,fun m hm=>?_⟩
 ·rw[m06 hx]
  simp[e]
 ·exact .here ha
 ·rcases (h0z hx ha).1 hm with h | ⟨_,h⟩
  ·omega
  ·exact absurd h e
end
section
attribute [-simp] z03 z05 z02
theorem allU {n:Nat} (h:n≤20):IntKind.u32.wrap (IntKind.u32.wrap (2 ^ min (IntKind.u64.wrap (n:Int)).toNat IntKind.u32.bits) - 1)=((2 ^ n - 1:Nat):Int):=by
 have h1:IntKind.u64.wrap (n:Int)=n:=v0z (by omega) (by omega)
 have h2:=shlU (x:=(n:Int)) (by omega) (by omega)
 rw[Int.one_mul] at h2
 have hp:2 ^ n≤2 ^ 20:=Nat.pow_le_pow_right (by omega) h
 have hp0:0<2 ^ n:=Nat.two_pow_pos n
 rw[h1,h2,Int.toNat_natCast,← Int.ofNat_one,← Int.ofNat_sub (by omega),p1p (by omega)]
def e18:K:=dc 0x1020390410400c4088e410410220a29819a590c125140923049a858c10410850401021b904104074276106181f30480501f78122a15e04104214100214015c05c08203c6c111b682080f0811a6434596036170010970401870403960160b93801020431021390410405425544c29291541004d200109244305455110014100440140e0020400450001833c200f34e344041000dc304338d0c1107005380e4034c0cc2c00422c10061010002830142fc0c0080002000080002000080002000080002000080002000080002000080002000080002000080002000080002014515a92289047a852410410840400c4082e410410080881c91c606ea051810410830400020390410016a8202040
def m1w:Nat×List RV:=(39,[.t 2])
theorem c_122:z01 PA 122 m1w e18:=by unfold z01; kernel_rfl
set_option maxRecDepth 200000 in
theorem g0z (g:TGram) (hw:z0q g<2 ^ 31) (hl:x0d g):z06 Tryz.prog 122 [.agg (z0b g)] (aI (y09 g)):=by
 refine Prun c_122 (by simp[m1w]) (by simp) ?_
 (conv in e18=>reduce); unfold m1w
 have hgo:=i0v g hw hl
 cases hg:y02 g with
 | false=>
   rw[hg] at hgo
   obtain⟨ps⟩:=g
   simp only[z0b] at hgo
   simp[z0b]
   refine z00 hgo (by simp) ?_
   simp[y09,hg]
 | true=>
 rw[hg] at hgo
 have hn:=x0k hg
 have hst:=y17 g hg hw hl
 have hpr:=o0c g hg hw hl
 have hrc:=n0d g hg hw
 have hvo:=l0x hg
 have hp1:=a0k hg
 have hr1:=t13 hg
 have hT:y09 g=if (List.range' 0 (g.parts.length - 0)).any (fun k=>((u0a g.parts).getD k 0).testBit k)=true then 2 else if k0p g.parts≠2 ^ g.parts.length - 1 then 3 else if rchs g.parts≠2 ^ g.parts.length - 1 then 4 else 0:=by
  simp only[y09,hg,List.range_eq_range']
  rfl
 obtain⟨ps⟩:=g
 simp only[z0b] at hgo hst hpr hrc
 simp only at hn hvo hp1 hr1 hT
 generalize y09 ⟨ps⟩=T at *
 generalize u0a ps=v at *
 generalize k0p ps=fp at *
 generalize rchs ps=fr at *
 have hall:=allU hn.2
 have n64: ¬IntKind.u64.wrap (ps.length:Int)<0:=by rw[v0z (by omega) (by omega)]; omega
 generalize hM:2 ^ ps.length - 1=M at *
 have hz:[C.int .u32 0,C.int .u32 0,C.int .u32 0,C.int .u32 0,C.int .u32 0,C.int .u32 0,C.int .u32 0,C.int .u32 0,C.int .u32 0,C.int .u32 0,C.int .u32 0,C.int .u32 0,C.int .u32 0,C.int .u32 0,C.int .u32 0,C.int .u32 0,C.int .u32 0,C.int .u32 0,C.int .u32 0,C.int .u32 0]=x0p (List.replicate ps.length 0):=by rw[r0w]; rfl
 try simp only[Int.ofNat_eq_natCast,Int.natCast_zero]
 rw[hz]
 simp[z0b]
 refine z00 hgo (by simp) ?_
 simp
 refine z00 hst (by simp) ?_
 simp[j0w]
 refine z04 (fun n σ=>∃i:Nat,i≤ps.length∧n=ps.length - i∧T=(if (List.range' i (ps.length - i)).any (fun k=>(v.getD k 0).testBit k)=true then 2 else if fp≠M then 3 else if fr≠M then 4 else 0)∧σ=⟨[(1,.one (.pt 1 1 [] 0 0)),(3,.one (.pt 20 3 [] 0 0)),(13,aI ps.length),(14,aI i)],[(1,⟨66,1,[[.ar false 0 1 (ps.map sISS)]]⟩),(3,⟨189,20,[x0p v]⟩)]⟩) (ps.length) ⟨0,by omega,rfl,hT,by simp⟩ ?_
 rintro n σ ⟨i,hi,rfl,ht,rfl⟩
 have wi:IntKind.i64.wrap ((i:Int)+1)=i+1:=z08 (by omega) (by omega)
 by_cases h:i<ps.length
 ·rw[b0h h] at ht
  have hiv:i<v.length:=by rw[hvo.1]; exact h
  rw[y0p hiv] at ht
  have hvi:=hvo.2 i
  have hg1:=s0d (v:=v) (k:=i) (by omega)
  rw[y0p hiv] at hvi hg1
  have h20:(i:Int)<20:=by omega
  have h20':i+1≤20:=by omega
  generalize v[i]=a at *
  have hh:=g0x a i (by have:=Nat.pow_le_pow_right (show 0<2 by omega) hn.2; omega) (by omega) (by omega)
  rw[Int.toNat_natCast] at hh
  simp[h,h20,h20',hg1]
  refine z00 hh (by simp) ?_
  cases c:a.testBit i with
  | true=>
    rw[c] at ht
    simp at ht
    simp[ht]
  | false=>
    rw[c,Bool.false_or] at ht
    simp
    exact⟨ps.length - (i+1),by omega,i+1,by omega,rfl,by simpa using ht,by simp[wi]⟩
 ·have:i=ps.length:=by omega
  subst this
  simp only[Nat.sub_self,List.range'_zero,List.any_nil] at ht
  simp[x0r,n64,hall]
  refine z00 hpr (by simp) ?_
  by_cases c1:fp=M
  case neg=>
   have c1': ¬(fp:Int)=M:=by omega
   simp at ht
   rw[if_neg c1] at ht
   simp[c1',ht]
  subst c1
  simp
  refine z00 hrc (by simp) ?_
  by_cases c2:fr=fp
  case neg=>
   have c2': ¬(fr:Int)=fp:=by omega
   simp[c2] at ht
   simp[c2',ht]
  simp[c2] at ht
  simp[c2,ht]
def k_75:K:=dc 0x102141140e442c4103052a450c10410840400ba0410016a8202040
def r_75:Nat×List RV:=(6,[.t 2])
theorem c_75:z01 PA 75 r_75 k_75:=by unfold z01; kernel_rfl
theorem b0w (g:TGram) (hw:z0q g<2 ^ 31) (hl:x0d g):z06 Tryz.prog 75 [.agg (z0b g)] (aB (decide (y09 g=0))):=by
 refine Prun c_75 (by simp[r_75]) (by simp) ?_
 (conv in k_75=>reduce); unfold r_75
 have hc:=g0z g hw hl
 obtain⟨ps⟩:=g
 simp only[z0b] at hc
 simp[z0b]
 refine z00 hc (by simp) ?_
 simp
end
end Go.Am
