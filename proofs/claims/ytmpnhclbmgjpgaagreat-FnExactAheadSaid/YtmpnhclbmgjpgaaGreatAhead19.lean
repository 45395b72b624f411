/- Text 19 for FnExactAhead. -/
import Derived.Test.YtmpnhclbmgjpgaaGreatAhead18
set_option linter.unusedVariables false
set_option linter.unusedSimpArgs false
namespace Go.Am
open Go.Proofs
set_option maxHeartbeats 4000000
set_option maxRecDepth 100000
attribute [-simp] BitVec.toNat_or BitVec.toNat_and BitVec.toNat_ofInt
section
attribute [-simp] z03 z05 z02
theorem l0x {g:TGram} (hg:y02 g=true):VOk g.parts.length (u0a g.parts):=n0x (w0l hg) _
theorem b0h {p:Nat→Bool} {n i:Nat} (h:i<n):(List.range' i (n - i)).any p=(p i || (List.range' (i+1) (n - (i+1))).any p):=by
 rw[show n - i=(n - (i+1))+1 by omega,List.range'_succ,List.any_cons]
theorem a0k {g:TGram} (hg:y02 g=true):k0p g.parts<2 ^ g.parts.length:=y0u (y0e fun k al hk _=>x01 w04 hk al) (Nat.two_pow_pos _) _
theorem t13 {g:TGram} (hg:y02 g=true):rchs g.parts<2 ^ g.parts.length:=
 y0u (y0e fun k al hk hm=>r0v (w0l hg al hm)) (Nat.one_lt_two_pow (by have:=x0k hg; omega)) _
theorem a0j {f n:Nat} (hf:f<2 ^ n): ∀d,pop f (n+d)=pop f n
 | 0=>rfl
 | d+1=>by
   have hb:f.testBit (n+d)=false:=Nat.testBit_lt_two_pow (Nat.lt_of_lt_of_le hf (Nat.pow_le_pow_right (by omega) (by omega)))
   rw[← Nat.add_assoc,pop,hb,a0j hf d]; simp
theorem w1m {f n:Nat} (hn:n≤20) (hf:f<2 ^ n):((z0s f 20).length:Int)<n↔f≠2 ^ n - 1:=by
 have h1:=a0j hf (20 - n)
 rw[show n+(20 - n)=20 by omega] at h1
 rw[p09,h1,ne_eq,← q1y hf]
 have:=l04 f n
 omega
def k_77:K:=dc 0x1020390410400c4088e410410230a389f3447de0de7416691628438600010a004019d0410421c00080000c4086e4104101c09c6d83446170d758162915b6836990010990401960410421c000800010f04f0b938010e1000c10c4084e41041015095513097a455040134800424914011d110040300604004500018334234c28d10c2c32c300a1001010000371030441030431c0144039041040003241248056a452010410830400c4082e41041007087189185055a451410410830400020390410016a8202040
def r_77:Nat×List RV:=(36,[.t 2])
theorem c_77:z01 PA 77 r_77 k_77:=by unfold z01; kernel_rfl
theorem t0j (g:TGram) (hw:z0q g<2 ^ 31) (hl:x0d g):z06 Tryz.prog 77 [.agg (z0b g)] (aI (y09 g)):=by
 refine Prun c_77 (by simp[r_77]) (by simp) ?_
 (conv in k_77=>reduce); unfold r_77
 have hgo:=u0o g hw
 have hlg:=hl
 cases hg:y02 g with
 | false=>
   rw[hg] at hgo
   obtain⟨ps⟩:=g
   simp only[z0b] at hgo
   simp[z0b]
   refine z00 hgo (by simp) ?_
   simp[y09,hg]
 | true=>
 rw[hg] at hgo
 have hn:=x0k hg
 have hst:=m0r g hg hw hl
 have hpr:=o0f g hg hw hl
 have hrc:=n0f g hg hw hl
 have hvo:=l0x hg
 have hp1:=w1m hn.2 (a0k hg)
 have hr1:=w1m hn.2 (t13 hg)
 have hT:y09 g=if (List.range' 0 (g.parts.length - 0)).any (fun k=>((u0a g.parts).getD k 0).testBit k)=true then 2 else if k0p g.parts≠2 ^ g.parts.length - 1 then 3 else if rchs g.parts≠2 ^ g.parts.length - 1 then 4 else 0:=by
  simp only[y09,hg,List.range_eq_range']
  rfl
 obtain⟨ps⟩:=g
 simp only[z0b] at hgo hst hpr hrc
 simp only at hn hvo hp1 hr1 hT
 generalize y09 ⟨ps⟩=T at *
 generalize u0a ps=v at *
 generalize k0p ps=fp at *
 generalize rchs ps=fr at *
 have hb1:=x0x fp
 have hb2:=x0x fr
 simp[z0b]
 refine z00 hgo (by simp) ?_
 simp
 refine z00 hst (by simp) ?_
 simp
 refine z04 (fun n σ=>∃i:Nat,i≤ps.length∧n=ps.length - i∧T=(if (List.range' i (ps.length - i)).any (fun k=>(v.getD k 0).testBit k)=true then 2 else if fp≠2 ^ ps.length - 1 then 3 else if fr≠2 ^ ps.length - 1 then 4 else 0)∧σ=⟨[(1,.one (.pt 1 1 [] 0 0)),(3,.one (.vw 54 1 3 [] 0 v.length)),(4,aI i)],[(1,⟨66,1,[[.ar false 0 1 (ps.map sISS)]]⟩),(3,⟨54,1,v.map rB⟩)]⟩) (ps.length) ⟨0,by omega,rfl,hT,by simp⟩ ?_
 rintro n σ ⟨i,hi,rfl,ht,rfl⟩
 have wi:IntKind.i64.wrap ((i:Int)+1)=i+1:=z08 (by omega) (by omega)
 by_cases h:i<ps.length
 ·rw[b0h h] at ht
  have hiv:i<v.length:=by rw[hvo.1]; exact h
  rw[y0p hiv] at ht
  have hvi:=hvo.2 i
  rw[y0p hiv] at hvi
  obtain⟨a,ha⟩: ∃a,v[i]=a:=⟨_,rfl⟩
  rw[ha] at ht hvi
  have hba:=x0x a
  have hh:=x0j (z0s a 20) i (by omega)
  rw[u0w (Nat.lt_of_lt_of_le hvi (Nat.pow_le_pow_right (by omega) hn.2)) (by omega),Int.toNat_natCast] at hh
  simp[hiv,ha,rB]
  refine z00 hh (by simp) ?_
  cases c:a.testBit i with
  | true=>
    rw[c] at ht
    simp at ht
    simp[ht]
  | false=>
    rw[c,Bool.false_or] at ht
    simp
    exact⟨ps.length - (i+1),by omega,i+1,by omega,rfl,by simpa using ht,by simp[wi]⟩
 ·have:i=ps.length:=by omega
  subst this
  simp only[Nat.sub_self,List.range'_zero,List.any_nil] at ht
  have hiv: ¬ps.length<v.length:=by rw[hvo.1]; omega
  simp[hvo.1]
  refine z00 hpr (by simp) ?_
  by_cases c1:fp=2 ^ ps.length - 1
  case neg=>
   have:=hp1.2 c1
   simp at ht
   rw[if_neg c1] at ht
   simp[this,ht]
  have n1: ¬((z0s fp 20).length:Int)<ps.length:=fun h=>hp1.1 h c1
  simp[n1]
  refine z00 hrc (by simp) ?_
  by_cases c2:fr=2 ^ ps.length - 1
  case neg=>
   have:=hr1.2 c2
   simp[c1] at ht
   rw[if_neg c2] at ht
   simp[this,ht]
  have n2: ¬((z0s fr 20).length:Int)<ps.length:=fun h=>hr1.1 h c2
  simp[c1,c2] at ht
  simp[n2,ht]
end
section
attribute [-simp] z03 z05 z02
theorem y1o {e i:Nat} {row:List Int} (h:i<row.length):y0l e (row.take (i+1))=(y0l e (row.take i) && (decide (100≤row[i]) && e.testBit (prt row[i]))):=by
 unfold y0l; exact b0g h
def s0j (e k:Nat) (row:List Int) (i:Nat) (v:List Nat):List Nat:=if y0l e (row.take i)=true then t0e e k (row.drop i) v else v
theorem q1n {e k i:Nat} {row:List Int} {v:List Nat} (h: ¬i<row.length):s0j e k row i v=v:=by
 unfold s0j; rw[e0o h]; split <;> rfl
theorem u18 {e k i:Nat} {row:List Int} {v:List Nat} (h:i<row.length):s0j e k row i v=if 100≤row[i]∧y0l e (row.take i)=true then s0j e k row (i+1) (upd v k (prt row[i])) else s0j e k row (i+1) v:=by
 unfold s0j
 rw[y1o h,i01 h]
 cases y0l e (row.take i) with
 | false=>simp
 | true=>
   by_cases c:100≤row[i]
   ·simp only[c,true_and,if_true,decide_true,Bool.true_and]
   ·simp[c]
theorem orV {a b x:Nat} (ha:a<2 ^ 20) (hb:b<2 ^ 20) (hx:100≤(x:Int)+100) (hx2:x<20) :
 IntKind.u32.wrap ((BitVec.ofInt IntKind.u32.bits (a:Int) ||| BitVec.ofInt IntKind.u32.bits (IntKind.u32.wrap ((BitVec.ofInt IntKind.u32.bits (IntKind.u32.wrap (2 ^ min (IntKind.u64.wrap (x:Int)).toNat IntKind.u32.bits)) ||| BitVec.ofInt IntKind.u32.bits (b:Int)).toNat:Int))).toNat:Int)=((a ||| (2 ^ x ||| b):Nat):Int):=by
 have h1:IntKind.u64.wrap (x:Int)=x:=v0z (by omega) (by omega)
 have h2:=shlU (x:=(x:Int)) (by omega) (by omega)
 rw[Int.one_mul] at h2
 have hp:2 ^ x<2 ^ 20:=Nat.pow_lt_pow_right (by omega) hx2
 have h3:=orU (a:=2 ^ x) (b:=b) (by omega) (by omega)
 have h4:=orU (a:=a) (b:=2 ^ x ||| b) (by omega) (Nat.lt_of_lt_of_le (Nat.or_lt_two_pow hp hb) (by omega))
 rw[h1,h2,Int.toNat_natCast]
 simp only[BitVec.ofInt_natCast]
 rw[h3]
 simp only[BitVec.ofInt_natCast]
 rw[h4]
def vsub (v w:List Nat):Prop:=∀k,sub (v.getD k 0) (w.getD k 0)
theorem u0c (v:List Nat):vsub v v:=fun _=>x02 _
theorem v0y {a b c:List Nat} (h:vsub a b) (h2:vsub b c):vsub a c:=fun k=>w06 (h k) (h2 k)
theorem g02 {n k x:Nat} {v:List Nat} (hv:VOk n v) (hk:k<n):vsub v (upd v k x):=fun j=>by
 rw[upd,u01 (by rw[hv.1]; exact hk)]
 by_cases e:j=k
 ·subst e; rw[if_pos rfl]; exact n09 _ _
 ·rw[if_neg e]; exact x02 _
theorem q01 {e n k:Nat} (hk:k<n): ∀{row:List Int} {v:List Nat},(∀x∈row,100≤x→prt x<n)→VOk n v→vsub v (t0e e k row v)∧∀j,j≠k→(t0e e k row v).getD j 0=v.getD j 0
 | [],v,_,_=>⟨u0c _,fun _ _=>rfl⟩
 | x :: r,v,hs,h=>by
   simp only[t0e]
   have hot: ∀j,j≠k→(upd v k (prt x)).getD j 0=v.getD j 0:=fun j hj=>by rw[upd,u01 (by rw[h.1]; exact hk),if_neg hj]
   by_cases hx:100≤x
   ·rw[if_pos hx]
    have h2:=o0q h hk (hs x (List.mem_cons_self ..) hx)
    have h3:=g02 (x:=prt x) h hk
    split
    ·obtain⟨h4,h5⟩:=q01 hk (fun y hy=>hs y (List.mem_cons_of_mem _ hy)) h2
     exact⟨v0y h3 h4,fun j hj=>(h5 j hj).trans (hot j hj)⟩
    ·exact⟨h3,hot⟩
   ·rw[if_neg hx]; exact⟨u0c _,fun _ _=>rfl⟩
theorem s1p {e n k:Nat} {al:List (List Int)} {v:List Nat} (hk:k<n) (hs: ∀row∈al,∀x∈row,100≤x→prt x<n) (h:VOk n v):vsub v (stP e k al v)∧∀j,j≠k→(stP e k al v).getD j 0=v.getD j 0:=
 ⟨(w0d (I:=VOk n) (R:=vsub) (fun _ _=>u0c _) (fun _ _ _=>v0y) (fun row v hr h=>⟨k01 hk (hs row hr) h,(q01 hk (hs row hr) h).1⟩) h).2,
  (w0d (I:=VOk n) (R:=fun v w=>∀j,j≠k→w.getD j 0=v.getD j 0) (fun _ _ _ _=>rfl) (fun _ _ _ h1 h2 j hj=>(h2 j hj).trans (h1 j hj)) (fun row v hr h=>⟨k01 hk (hs row hr) h,(q01 hk (hs row hr) h).2⟩) h).2⟩
theorem b03 {n:Nat} {v w:List Nat} (hv:VOk n v) (hw:VOk n w) (h: ∀k,v.getD k 0=w.getD k 0):v=w:=by
 apply List.ext_getElem
 ·rw[hv.1,hw.1]
 ·intro k h1 h2
  have:=h k
  rwa [y0p h1,y0p h2] at this
theorem s0r {a b:Nat} (h:sub a b) (h2:sub b a):a=b:=Nat.eq_of_testBit_eq fun i=>by
 cases ha:a.testBit i with
 | true=>rw[h i ha]
 | false=>
   cases hb:b.testBit i with
   | true=>rw[h2 i hb] at ha; cases ha
   | false=>rfl
def neqV (v w:List Nat):Bool:=decide (v≠w)
theorem f0u (v:List Nat):neqV v v=false:=by simp[neqV]
theorem o15 {v w:List Nat} (h:neqV v w=true):v≠w:=of_decide_eq_true h
theorem o14 {v w:List Nat} (h:neqV v w=false):v=w:=Classical.byContradiction (of_decide_eq_false h)
theorem u1e {e n k:Nat} {al:List (List Int)} {v0 v:List Nat} (hk:k<n) (hs: ∀row∈al,∀x∈row,100≤x→prt x<n) (h0:VOk n v0) (hv:VOk n v) (hsub:vsub v0 v) :
 (neqV v v0 || decide ((stP e k al v).getD k 0≠v.getD k 0))=neqV (stP e k al v) v0:=by
 obtain⟨h1,h2⟩:=s1p (e:=e) hk hs hv
 have hv2:=h1t (e:=e) hk hs hv
 unfold neqV
 rw[Bool.eq_iff_iff,Bool.or_eq_true,decide_eq_true_iff,decide_eq_true_iff,decide_eq_true_iff]
 constructor
 ·rintro (h | h) heq
  ·apply h
   rw[heq] at h1
   exact b03 hv h0 fun j=>s0r (h1 j) (hsub j)
  ·apply h
   rw[heq] at h1 ⊢
   exact s0r (hsub k) (h1 k)
 ·intro h
  by_cases hvv:v=v0
  ·right
   intro heq
   apply h
   rw[← hvv]
   refine b03 hv2 hv fun j=>?_
   by_cases hj:j=k
   ·rw[hj]; exact heq
   ·exact h2 j hj
  ·exact .inl hvv
end
end Go.Am
