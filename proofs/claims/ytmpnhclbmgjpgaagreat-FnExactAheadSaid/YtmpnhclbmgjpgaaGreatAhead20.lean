/- Text 20 for FnExactAhead. -/
import Derived.Test.YtmpnhclbmgjpgaaGreatAhead19
set_option linter.unusedVariables false
set_option linter.unusedSimpArgs false
namespace Go.Am
open Go.Proofs
set_option maxHeartbeats 4000000
set_option maxRecDepth 100000
attribute [-simp] BitVec.toNat_or BitVec.toNat_and BitVec.toNat_ofInt
section
attribute [-simp] z03 z05 z02
def v0f (e:Nat) (v:List Nat):List Int→Nat
 | []=>0
 | x :: r=>if inr x 0 25=true then 2 ^ x.toNat else if 100≤x∧prt x<v.length then v.getD (prt x) 0 ||| (if e.testBit (prt x)=true then v0f e v r else 0) else 0
def q04 (e k:Nat) (v:List Nat) (row:List Int):List Nat:=v.set k (v.getD k 0 ||| v0f e v row)
def fsP (e k:Nat) (al:List (List Int)) (v:List Nat):List Nat:=al.foldl (q04 e k) v
def u0j (ps:List (List (List Int))):List Nat:=iter (z0h (fsP (y00 ps)) 0 ps) (ps.length+1) (List.replicate ps.length 0)
def p0d (g:TGram) (row:List Int):Nat:=v0f (y00 g.parts) (u0j g.parts) row
def LOk (n:Nat) (v:List Nat):Prop:=v.length=n∧∀k,v.getD k 0<2 ^ 26
theorem a03 (n:Nat):LOk n (List.replicate n 0):=⟨by simp,fun k=>by
 by_cases h:k<n
 ·rw[y0p (by simpa using h)]; simp
 ·simp[List.getD_eq_getElem?_getD,List.getElem?_eq_none (by simpa using h:(List.replicate n 0).length≤k)]⟩
theorem p0r {e n:Nat} {v:List Nat} (h:LOk n v): ∀row,v0f e v row<2 ^ 26
 | []=>by simp[v0f]
 | x :: r=>by
   rw[v0f]
   split
   ·rename_i hx
    rw[z0l] at hx
    exact Nat.pow_lt_pow_right (by omega) (by omega)
   ·split
    ·refine Nat.or_lt_two_pow (h.2 _) ?_
     split
     ·exact p0r h r
     ·omega
    ·omega
theorem m0w {e n k:Nat} {v:List Nat} {row:List Int} (hk:k<n) (h:LOk n v):LOk n (q04 e k v row):=by
 refine⟨by simp[q04,h.1],fun j=>?_⟩
 rw[q04,u01 (by rw[h.1]; exact hk)]
 split
 ·exact Nat.or_lt_two_pow (h.2 k) (p0r h row)
 ·exact h.2 j
theorem a05 {e n k:Nat} {v:List Nat} {row:List Int} (hk:k<n) (h:LOk n v):vsub v (q04 e k v row)∧∀j,j≠k→(q04 e k v row).getD j 0=v.getD j 0:=by
 refine⟨fun j=>?_,fun j hj=>?_⟩
 ·rw[q04,u01 (by rw[h.1]; exact hk)]
  split
  ·rename_i e; subst e; exact n09 _ _
  ·exact x02 _
 ·rw[q04,u01 (by rw[h.1]; exact hk),if_neg hj]
theorem m12 {e n k:Nat} {al:List (List Int)} {v:List Nat} (hk:k<n) (h:LOk n v):LOk n (fsP e k al v)∧vsub v (fsP e k al v):=
 w0d (I:=LOk n) (R:=vsub) (fun _ _=>u0c _) (fun _ _ _=>v0y) (fun row v _ h=>⟨m0w hk h,(a05 hk h).1⟩) h
theorem a1i {e n k:Nat} {al:List (List Int)} {v:List Nat} (hk:k<n) (h:LOk n v): ∀j,j≠k→(fsP e k al v).getD j 0=v.getD j 0:=by
 have: ∀{al:List (List Int)} {v:List Nat},LOk n v→∀j,j≠k→(al.foldl (q04 e k) v).getD j 0=v.getD j 0:=by
  intro al
  induction al with
  | nil=>intro v _ j _; rfl
  | cons row al ih=>
    intro v h j hj
    rw[List.foldl_cons,ih (m0w hk h) j hj,(a05 hk h).2 j hj]
 exact this h
theorem q1r {e:Nat} {ps:List (List (List Int))} {v:List Nat} (h:LOk ps.length v):LOk ps.length (z0h (fsP e) 0 ps v):=
 (r09 (I:=LOk ps.length) (R:=fun _ _=>True) (fun _ _=>trivial) (fun _ _ _ _ _=>trivial) (fun j al v _ hj hm h=>⟨(m12 (by omega) h).1,trivial⟩) h).1
theorem r0u {e:Nat} {ps:List (List (List Int))}: ∀m,LOk ps.length (iter (z0h (fsP e) 0 ps) m (List.replicate ps.length 0))
 | 0=>a03 _
 | m+1=>q1r (r0u m)
theorem b0u {e k i:Nat} {al:List (List Int)} {v:List Nat} (h:i<al.length):fsP e k (al.drop i) v=fsP e k (al.drop (i+1)) (q04 e k v al[i]):=by
 unfold fsP; rw[v0o h]
theorem w1t {e k i:Nat} {al:List (List Int)} {v:List Nat} (h: ¬i<al.length):fsP e k (al.drop i) v=v:=by
 unfold fsP; rw[t01 h]
theorem lext {n:Nat} {v w:List Nat} (hv:LOk n v) (hw:LOk n w) (h: ∀k,v.getD k 0=w.getD k 0):v=w:=by
 apply List.ext_getElem
 ·rw[hv.1,hw.1]
 ·intro k h1 h2
  have:=h k
  rwa [y0p h1,y0p h2] at this
theorem y1l {e n k:Nat} {al:List (List Int)} {v0 v:List Nat} (hk:k<n) (h0:LOk n v0) (hv:LOk n v) (hsub:vsub v0 v) :
 (neqV v v0 || decide ((fsP e k al v).getD k 0≠v.getD k 0))=neqV (fsP e k al v) v0:=by
 obtain⟨hv2,h1⟩:=m12 (e:=e) (al:=al) hk hv
 have h2:=a1i (e:=e) (al:=al) hk hv
 unfold neqV
 rw[Bool.eq_iff_iff,Bool.or_eq_true,decide_eq_true_iff,decide_eq_true_iff,decide_eq_true_iff]
 constructor
 ·rintro (h | h) heq
  ·apply h
   rw[heq] at h1
   exact lext hv h0 fun j=>s0r (h1 j) (hsub j)
  ·apply h
   rw[heq] at h1 ⊢
   exact s0r (hsub k) (h1 k)
 ·intro h
  by_cases hvv:v=v0
  ·right
   intro heq
   apply h
   rw[← hvv]
   refine lext hv2 hv fun j=>?_
   by_cases hj:j=k
   ·rw[hj]; exact heq
   ·exact h2 j hj
  ·exact .inl hvv
def LCol (n m:Nat) (v:List Nat) (c:Nat):Prop:=LOk n v∧c<2 ^ n∧∀k,k<n→c.testBit k=(v.getD k 0).testBit m
def lOf (e m n c:Nat):List Int→Bool
 | []=>false
 | x :: r=>if inr x 0 25=true then decide (x.toNat=m) else if 100≤x∧prt x<n then c.testBit (prt x) || (e.testBit (prt x) && lOf e m n c r) else false
def lUpd (e m n k c:Nat) (row:List Int):Nat:=if lOf e m n c row=true then c ||| 2 ^ k else c
theorem o10 {e m n c:Nat} {v:List Nat} (h:LCol n m v c): ∀row,(v0f e v row).testBit m=lOf e m n c row
 | []=>by simp[v0f,lOf]
 | x :: r=>by
   rw[v0f,lOf,h.1.1]
   split
   ·rw[Nat.testBit_two_pow]
   ·split
    ·rename_i hx
     rw[Nat.testBit_or,h.2.2 _ hx.2]
     congr 1
     split
     ·rename_i he; rw[o10 h r,he,Bool.true_and]
     ·rename_i he; rw[Nat.zero_testBit]; simp only[Bool.not_eq_true] at he; rw[he,Bool.false_and]
    ·exact Nat.zero_testBit m
theorem q1m {e n m k c:Nat} {v:List Nat} {row:List Int} (hk:k<n) (h:LCol n m v c):LCol n m (q04 e k v row) (lUpd e m n k c row):=by
 refine⟨m0w hk h.1,?_,fun j hj=>?_⟩
 ·unfold lUpd; split
  ·exact q08 h.2.1 hk
  ·exact h.2.1
 ·rw[q04,u01 (by rw[h.1.1]; exact hk)]
  unfold lUpd
  by_cases e1:j=k
  ·subst e1
   rw[if_pos rfl,Nat.testBit_or,o10 h,← h.2.2 j hj]
   cases lOf e m n c row with
   | true=>rw[if_pos rfl,Nat.testBit_or,Nat.testBit_two_pow_self,Bool.or_true]
   | false=>simp
  ·rw[if_neg e1,← h.2.2 j hj]
   split
   ·rw[Nat.testBit_or,Nat.testBit_two_pow_of_ne (by omega),Bool.or_false]
   ·rfl
theorem y1i {e m n k:Nat} (hk:k<n) (row:List Int):s0t (fun c=>lUpd e m n k c row) n:=fun c hc=>by
 simp only[lUpd]; split
 ·exact⟨q08 hc hk,n09 _ _⟩
 ·exact⟨hc,x02 _⟩
theorem d0p {e:Nat} {ps:List (List (List Int))} :
 z0h (fsP e) 0 ps (iter (z0h (fsP e) 0 ps) ps.length (List.replicate ps.length 0))=iter (z0h (fsP e) 0 ps) ps.length (List.replicate ps.length 0):=by
 have hcol: ∀m v c,LCol ps.length m v c→LCol ps.length m (z0h (fsP e) 0 ps v) (z0h (fun k al c=>al.foldl (lUpd e m ps.length k) c) 0 ps c):=fun m v c h=>
  l03 (Q:=LCol ps.length m) (fun j al v c _ hj hm h=>m0c (Q:=LCol ps.length m) (fun row v c hr h=>q1m (by omega) h) h) h
 have hg: ∀m,s0t (z0h (fun k al c=>al.foldl (lUpd e m ps.length k) c) 0 ps) ps.length:=fun m=>y0e fun k al hk _ f hf=>
  w0d (I:=fun f=>f<2 ^ ps.length) (R:=sub) (fun a _=>x02 a) (fun _ _ _=>w06) (fun row f _ hf=>y1i hk row f hf) hf
 have h0: ∀m,LCol ps.length m (List.replicate ps.length 0) 0:=fun m=>⟨a03 _,Nat.two_pow_pos _,fun k hk=>by simp[List.getD_eq_getElem?_getD,List.getElem?_replicate,hk]⟩
 have hit: ∀m,LCol ps.length m (iter (z0h (fsP e) 0 ps) ps.length (List.replicate ps.length 0)) (iter (z0h (fun k al c=>al.foldl (lUpd e m ps.length k) c) 0 ps) ps.length 0):=fun m=>h05 (hcol m) (h0 m) _
 apply List.ext_getElem
 ·rw[(hcol 0 _ _ (hit 0)).1.1,(hit 0).1.1]
 ·intro k h1 h2
  apply Nat.eq_of_testBit_eq
  intro m
  have hk:k<ps.length:=by rw[(hit 0).1.1] at h2; exact h2
  have a1:=(hcol m _ _ (hit m)).2.2 k hk
  have a2:=(hit m).2.2 k hk
  rw[r0q (hg m) (Nat.two_pow_pos _)] at a1
  rw[a1] at a2
  rw[List.getD_eq_getElem?_getD,List.getD_eq_getElem?_getD,List.getElem?_eq_getElem h1,List.getElem?_eq_getElem h2] at a2
  exact a2
theorem j0g {e i:Nat} {v:List Nat} {row:List Int} (h:i<row.length):v0f e v (row.drop i)=if inr row[i] 0 25=true then 2 ^ row[i].toNat else if 100≤row[i]∧prt row[i]<v.length then v.getD (prt row[i]) 0 ||| (if e.testBit (prt row[i])=true then v0f e v (row.drop (i+1)) else 0) else 0:=by
 rw[List.drop_eq_getElem_cons h,v0f]
theorem f0y {e i:Nat} {v:List Nat} {row:List Int} (h: ¬i<row.length):v0f e v (row.drop i)=0:=by
 rw[List.drop_eq_nil_of_le (by omega),v0f]
end
end Go.Am
