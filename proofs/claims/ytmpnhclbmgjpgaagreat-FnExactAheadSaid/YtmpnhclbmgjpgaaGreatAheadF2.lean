/- FRAMEWORK, text 2: operations on trees that leave memory alone, and stores. Proved once, for every program; no condition. -/
import Derived.Test.YtmpnhclbmgjpgaaGreatAheadF1
import Derived.Laws.BytesString
import Derived.Laws.StructEq
set_option linter.unusedVariables false
set_option linter.unusedSimpArgs false
namespace Go.Am
def b04 (e id:Nat) (st:Path) (i f:Nat):C→C
 | .ar true t2 e2 ys=> .vw t2 e2 id (st ++ [(e,i,f)]) 0 ys.length
 | .op _ e2 _=> .pt e2 id (st ++ [(e,i,f)]) 0 0
 | c=>c
def r0l (e id:Nat) (st:Path) (i:Nat):Nat→List C→List C
 | _,[]=>[]
 | f,c :: cs=>b04 e id st i f c :: r0l e id st i (f+1) cs
def mkA (ag:Bool) (cs:List C):A:=
 if ag then .agg cs else match cs with
  | [c]=> .one c
  | _=> .one .dead
def s0h:List (List C)→Option (List UInt8)
 | []=>some []
 | r :: rs=>match r,s0h rs with
   | [.int .u8 n],some bs=>some (UInt8.ofNat n.toNat :: bs)
   | _,_=>none
def eqSc:List Bool→List C→List C→Option Bool
 | [],[],[]=>some true
 | false :: ks,.int k a :: r,.int k' b :: r'=>if k=k' then (eqSc ks r r').map (fun x=>a == b && x) else none
 | true :: ks,.str a :: r,.str b :: r'=>(eqSc ks r r').map (fun x=>a.toList == b.toList && x)
 | _,_,_=>none
def evCs (σ:St):List X→Option (List C)
 | []=>some []
 | x :: xs=>match ev σ x,evCs σ xs with
   | some (.one c),some cs=>if c.aff then none else some (c :: cs)
   | _,_=>none
def runV:I→St→Option (A×St)
 | .mv x,σ=>v06 σ x
 | .als x,σ=>v06 σ x
 | .pick c a b,σ=>match ev σ c with
   | some (.one (.bool t))=>if t then v06 σ a else v06 σ b
   | _=>none
 | .bin o x y,σ=>match ev σ x,ev σ y with
   | some a,some b=>(q0e o a b).map fun c=>(.one c,σ)
   | _,_=>none
 | .beq ne x y,σ=>match ev σ x,ev σ y with
   | some (.one (.bool a)),some (.one (.bool b))=>some (.one (.bool (if ne then !(a == b) else a == b)),σ)
   | _,_=>none
 | .not x,σ=>match ev σ x with
   | some (.one (.bool b))=>some (.one (.bool !b),σ)
   | _=>none
 | .neg x,σ=>match ev σ x with
   | some (.one (.int k n))=>some (.one (.int k (k.wrap (0 - n))),σ)
   | _=>none
 | .conv k x,σ=>match ev σ x with
   | some (.one (.int _ n))=>some (.one (.int k (k.wrap n)),σ)
   | _=>none
 | .len x,σ=>match ev σ x with
   | some (.one (.vw _ _ _ _ _ n))=>some (.one (.int .i64 n),σ)
   | some (.one (.ar _ _ _ xs))=>some (.one (.int .i64 xs.length),σ)
   | _=>none
 | .lns x,σ=>match ev σ x with
   | some (.one (.str s))=>some (.one (.int .i64 s.size),σ)
   | _=>none
 | .mnx mx x y,σ=>match ev σ x,ev σ y with
   | some (.one (.int k a)),some (.one (.int k' b))=>if k=k' then some (.one (.int k (if mx then (if b>a then b else a) else (if b<a then b else a))),σ) else none
   | _,_=>none
 | .ext i x,σ=>match x with
   | .t n=>match look σ.tm n with
     | some (.tup xs)=>match xs[i]? with
       | some (ag,cs)=>
         let a:=mkA ag cs
         some (a,if a.aff then { σ with tm:=put σ.tm n (.tup (xs.set i (false,[.dead]))) } else σ)
       | none=>none
     | _=>none
   | .c _=>none
 | .fld off n ag x,σ=>match ev σ x with
   | some (.agg cs)=>if off+n≤cs.length∧t0r ((cs.drop off).take n)=false then some (mkA ag ((cs.drop off).take n),σ) else none
   | _=>none
 | .idx x i,σ=>match ev σ x,ev σ i with
   | some (.one (.str s)),some (.one (.int _ i))=>if 0≤i∧i<s.size then some (.one (.int .u8 (s.data.toList.getD i.toNat 0).toNat),σ) else none
   | _,_=>none
 | .idxa m e ag x i,σ=>match ev σ x,ev σ i with
   | some (.agg cs),some (.one (.int _ i))=>if 0≤i∧i<m∧i.toNat*e+e≤cs.length∧t0r ((cs.drop (i.toNat*e)).take e)=false then some (mkA ag ((cs.drop (i.toNat*e)).take e),σ) else none
   | _,_=>none
 | .nil x,σ=>match ev σ x with
   | some (.one (.pt ..))=>v06 σ x
   | some (.one (.ps ..))=>v06 σ x
   | some (.one (.fn ..))=>v06 σ x
   | _=>none
 | .mkf f xs,σ=>match evCs σ xs with
   | some cs=>some (.one (.fn f cs),σ)
   | none=>none
 | .iaa m e p i,σ=>match ev σ p,ev σ i with
   | some (.one (.pt e0 id st r f)),some (.one (.int _ i))=>if 0≤i∧i<m then some (.one (.pt e0 id st r (f+i.toNat*e)),σ) else none
   | some (.one (.ps cs)),some (.one (.int _ i))=>if 0≤i∧i<m∧i.toNat*e≤cs.length then some (.one (.ps (cs.drop (i.toNat*e))),σ) else none
   | _,_=>none
 | .fad off p,σ=>match ev σ p with
   | some (.one (.pt e id st i f))=>some (.one (.pt e id st i (f+off)),σ)
   | some (.one (.ps cs))=>if off≤cs.length then some (.one (.ps (cs.drop off)),σ) else none
   | _=>none
 | .iad e x i,σ=>match ev σ x,ev σ i with
   | some (.one (.vw _ e' id st lo n)),some (.one (.int _ i))=>if e'=e∧0≤i∧i<n then some (.one (.pt e id st (lo+i.toNat) 0),σ) else none
   | some (.one (.ar false _ e' xs)),some (.one (.int _ i))=>if e'=e∧0≤i then
      match xs[i.toNat]? with
      | some row=>some (.one (.ps row),σ)
      | none=>none
     else none
   | _,_=>none
 | .ld n ag p,σ=>match ev σ p with
   | some (.one (.pt e id st i f))=>match look σ.ob id with
     | some o=>match getA o.t o.e o.xs st with
       | some o'=>if o'.e=e then
          match o'.xs[i]? with
          | some row=>if f+n≤row.length then some (mkA ag (r0l e id st i f ((row.drop f).take n)),σ) else none
          | none=>none
         else none
       | none=>none
     | none=>none
   | some (.one (.ps cs))=>if n≤cs.length then some (mkA ag (cs.take n),σ) else none
   | _=>none
 | .slc es x lo hi,σ=>match ev σ x,(match lo with | some l=>ev σ l | none=>some (.one (.int .i64 0))) with
   | some (.one (.vw t e id st lo0 n)),some (.one (.int _ l))=>
     match (match hi with | some h=>ev σ h | none=>some (.one (.int .i64 n))) with
     | some (.one (.int _ h))=>if e=es∧0≤l∧l≤h∧h≤n then some (.one (.vw t e id st (lo0+l.toNat) (h - l).toNat),σ) else none
     | _=>none
   | some (.one (.ar false t e xs)),some (.one (.int _ l))=>
     match (match hi with | some h=>ev σ h | none=>some (.one (.int .i64 xs.length))) with
     | some (.one (.int _ h))=>if e=es∧0≤l∧l≤h∧h≤xs.length then some (.one (.ar false t e ((xs.take h.toNat).drop l.toNat)),σ) else none
     | _=>none
   | _,_=>none
 | .b2s x,σ=>match ev σ x with
   | some (.one (.vw _ e id st lo n))=>match look σ.ob id with
     | some o=>match getA o.t o.e o.xs st with
       | some o'=>if e=1∧o'.e=1∧lo+n≤o'.xs.length then
          match s0h ((o'.xs.drop lo).take n) with
          | some bs=>some (.one (.str ⟨bs.toArray⟩),σ)
          | none=>none
         else none
       | none=>none
     | none=>none
   | some (.one (.ar _ _ e xs))=>if e=1 then
      match s0h xs with
      | some bs=>some (.one (.str ⟨bs.toArray⟩),σ)
      | none=>none
     else none
   | _=>none
 | .sqe ne ks x y,σ=>match ev σ x,ev σ y with
   | some (.agg a),some (.agg b)=>(eqSc ks a b).map fun r=>(.one (.bool (if ne then !r else r)),σ)
   | _,_=>none
 | .sls x lo hi,σ=>match ev σ x,(match lo with | some l=>ev σ l | none=>some (.one (.int .i64 0))) with
   | some (.one (.str s)),some (.one (.int _ l))=>
     match (match hi with | some h=>ev σ h | none=>some (.one (.int .i64 s.size))) with
     | some (.one (.int _ h))=>if 0≤l∧l≤h∧h≤s.size then some (.one (.str (s.extract l.toNat h.toNat)),σ) else none
     | _=>none
   | _,_=>none
 | _,_=>none
def s00 (P:Program) (t n:Nat):Prop:=∃i,P.info? t=some i∧i.size=n
def aggD:TypeDesc→Bool
 | .struct _ | .array _ _=>true
 | _=>false
def z1i (P:Program) (t:Nat) (b:Bool):Prop:=∃d,P.underlying t=some d∧aggD d=b
def XO:Option X→Option Operand→Prop
 | none,none=>True
 | some x,some o=>XOf x o
 | _,_=>False
def z1k (P:Program):List Field→List Bool→Nat→Prop
 | [],[],_=>True
 | f :: r,s :: ks,i=>f.name≠ "_" ∧f.offset=i∧(if s then P.underlying f.type=some .string else ∃k,P.underlying f.type=some (.int k))∧z1k P r ks (i+1)
 | _,_,_=>False
def XL:List X→List Operand→Prop
 | [],[]=>True
 | x :: xs,o :: os=>XOf x o∧XL xs os
 | _,_=>False
inductive IsV (P:Program):Op→I→Prop
 | mkf {f os xs}:XL xs os→IsV P (.makeFunc (.func f) #[] (List.toArray os)) (.mkf f xs)
 | iaa {t m el e x i x' i'}:XOf x' x→XOf i' i→P.underlying t=some (.array m el)→s00 P el e→IsV P (.indexAddr t x i) (.iaa m e x' i')
 | mv {x o}:XOf x o→IsV P (.move o) (.mv x)
 | als {x o}:XOf x o→IsV P (.assign o) (.als x)
 | pick {c a b c' a' b'}:XOf c' c→XOf a' a→XOf b' b→IsV P (.pick c a b) (.pick c' a' b')
 | bin {op t x y yt x' y'}:XOf x' x→XOf y' y→IsV P (.binOp op t x y yt) (.bin op x' y')
 | beq {t x y yt x' y'}:XOf x' x→XOf y' y→P.underlying t=some .bool→IsV P (.binOp .eql t x y yt) (.beq false x' y')
 | bne {t x y yt x' y'}:XOf x' x→XOf y' y→P.underlying t=some .bool→IsV P (.binOp .neq t x y yt) (.beq true x' y')
 | not {t x x'}:XOf x' x→IsV P (.unOp .not t x) (.not x')
 | neg {t x x'}:XOf x' x→IsV P (.unOp .neg t x) (.neg x')
 | conv {s d k k' x x'}:XOf x' x→P.underlying s=some (.int k')→P.underlying d=some (.int k)→IsV P (.convert s d x) (.conv k x')
 | lenS {t el x x'}:XOf x' x→P.underlying t=some (.slice el)→IsV P (.call { callee:= .builtin .len,args:=#[x],argTypes:=#[t] }) (.len x')
 | lenT {t x x'}:XOf x' x→P.underlying t=some .string→IsV P (.call { callee:= .builtin .len,args:=#[x],argTypes:=#[t] }) (.lns x')
 | max {ts x y x' y'}:XOf x' x→XOf y' y→IsV P (.call { callee:= .builtin .max,args:=#[x,y],argTypes:=ts }) (.mnx true x' y')
 | min {ts x y x' y'}:XOf x' x→XOf y' y→IsV P (.call { callee:= .builtin .min,args:=#[x,y],argTypes:=ts }) (.mnx false x' y')
 | ext {x n i}:x=Operand.tmp n→IsV P (.extract x i) (.ext i (.t n))
 | fld {t fs f fl n ag x x'}:XOf x' x→P.underlying t=some (.struct fs)→fs[f]?=some fl→s00 P fl.type n→z1i P fl.type ag→(ag=false→n=1)→
    IsV P (.field t x f) (.fld fl.offset n ag x')
 | idx {t x i x' i'}:XOf x' x→XOf i' i→P.underlying t=some .string→IsV P (.index t x i) (.idx x' i')
 | idxa {t m el n ag x i x' i'}:XOf x' x→XOf i' i→P.underlying t=some (.array m el)→s00 P el n→z1i P el ag→(ag=false→n=1)→IsV P (.index t x i) (.idxa m n ag x' i')
 | nil {x x'}:XOf x' x→IsV P (.nilCheck x) (.nil x')
 | fad {t fs f fl n x x'}:XOf x' x→P.underlying t=some (.struct fs)→fs[f]?=some fl→s00 P fl.type n→n≠0→IsV P (.fieldAddr t x f) (.fad fl.offset x')
 | iad {t el e x i x' i'}:XOf x' x→XOf i' i→P.underlying t=some (.slice el)→s00 P el e→IsV P (.indexAddr t x i) (.iad e x' i')
 | ld {t n ag p p'}:XOf p' p→s00 P t n→z1i P t ag→(ag=false→n=1)→IsV P (.load t p) (.ld n ag p')
 | slcS {t el e x lo hi x' lo' hi'}:XOf x' x→XO lo' lo→XO hi' hi→P.underlying t=some (.slice el)→s00 P el e→IsV P (.slice t x lo hi none) (.slc e x' lo' hi')
 | sqe {t x y yt x' y' fs ks} {ne:Bool}:XOf x' x→XOf y' y→P.underlying t=some (.struct fs)→z1k P fs.toList ks 0→P.stoodInHeld t=false→P.eqGuardType P.depth t=false→
    IsV P (.binOp (if ne then .neq else .eql) t x y yt) (.sqe ne ks x' y')
 | b2s {s d e x x'}:XOf x' x→P.underlying s=some (.slice e)→P.underlying e=some (.int .u8)→P.underlying d=some .string→IsV P (.convert s d x) (.b2s x')
 | slcT {t x lo hi x' lo' hi'}:XOf x' x→XO lo' lo→XO hi' hi→P.underlying t=some .string→IsV P (.slice t x lo hi none) (.sls x' lo' hi')
end Go.Am
namespace Go.Am
section
variable {w:World} {N:Nat→Prop} {lc:Loc}
mutual
theorem t1e: ∀(c:C) {g:Value} {F:Fp},repC w N c g F→repT w N lc c g F
 | .vw ..,_,_,h=>h.elim
 | .pt ..,_,_,h=>h.elim
 | .ps ..,_,_,h=>h.elim
 | .dead,_,_,h=>h.1
 | .op ..,_,_,h=>h
 | .fn f cap,_,_,h=>by
   simp only[repC] at h
   obtain⟨rfl,vs,hg,hr⟩:=h
   exact⟨rfl,vs,hg,l0h cap hr⟩
 | .int ..,_,_,h=>h
 | .bool ..,_,_,h=>h
 | .str ..,_,_,h=>h
 | .np,_,_,h=>h
 | .ar ..,_,_,h=>h
theorem l0h: ∀(cs:List C) {vs:List Value} {F:Fp},z0d w N cs vs F→z0m w N lc cs vs F
 | [],_,_,h=>by simpa only[z0d,z0m] using h
 | c :: cs,_,_,h=>by
   simp only[z0d] at h
   obtain⟨v,vs',F1,F2,rfl,rfl,h1,h2⟩:=h
   exact⟨v,vs',F1,F2,rfl,rfl,t1e c h1,l0h cs h2⟩
end
theorem u07 {c:C} {g:Value} {F:Fp} (h:repC w N c g F):repT w N lc c g F:=t1e c h
theorem s0n {cs:List C} {vs:List Value} {F:Fp} (h:z0d w N cs vs F):z0m w N lc cs vs F:=l0h cs h
theorem t09: ∀{cs:List C} {vs:List Value} {F:Fp},z0m w N lc cs vs F→vs.length=cs.length
 | [],_,_,h=>by simp[h.1]
 | c :: cs,_,_,⟨v,vs',F1,F2,hv,_,_,h2⟩=>by subst hv; simp[t09 h2]
theorem u08: ∀{cs:List C} {vs:List Value} (n:Nat) {F:Fp},z0m w N lc cs vs F→∃F',(∀b,F' b≤F b)∧z0m w N lc (cs.drop n) (vs.drop n) F'
 | cs,vs,0,F,h=>⟨F,fun _=>Nat.le_refl _,by simpa using h⟩
 | [],vs,n+1,F,h=>by
   obtain⟨rfl,rfl⟩:=h
   exact⟨fz,fun _=>Nat.le_refl _,by simp[z0m]⟩
 | c :: cs,_,n+1,_,h=>by
   obtain⟨v,vs',F1,F2,rfl,rfl,h1,h2⟩:=h
   obtain⟨F',hle,h'⟩:=u08 n h2
   exact⟨F',fun b=>by have:=hle b; simp only[add]; omega,by simpa using h'⟩
theorem t0q: ∀{cs:List C} {vs:List Value} (n:Nat) {F:Fp},z0m w N lc cs vs F→∃F',(∀b,F' b≤F b)∧z0m w N lc (cs.take n) (vs.take n) F'
 | cs,vs,0,F,h=>⟨fz,fun _=>Nat.zero_le _,by simp[z0m]⟩
 | [],vs,n+1,F,h=>by
   obtain⟨rfl,rfl⟩:=h
   exact⟨fz,fun _=>Nat.le_refl _,by simp[z0m]⟩
 | c :: cs,_,n+1,_,h=>by
   obtain⟨v,vs',F1,F2,rfl,rfl,h1,h2⟩:=h
   obtain⟨F',hle,h'⟩:=t0q n h2
   exact⟨add F1 F',fun b=>by have:=hle b; simp only[add]; omega,v,_,F1,F',rfl,rfl,h1,h'⟩
theorem l0d {ag:Bool} {cs:List C} {vs:List Value} {F:Fp} {n:Nat} (hn:cs.length=n) (h1:ag=false→n=1) (h:z0m w N lc cs vs F) :
 repA w N lc (mkA ag cs) (if ag then .agg vs.toArray else vs.getD 0 undef) F:=by
 cases ag with
 | true=>exact⟨vs,rfl,h⟩
 | false=>
   have:=h1 rfl
   subst this
   match cs,hn with
   | [c],_=>
     obtain⟨v,vs',F1,F2,rfl,rfl,h1,h2⟩:=h
     obtain⟨rfl,rfl⟩:=h2
     rw[z0g]
     exact h1
theorem v05 (w:World): ∀(st:Path) (l:Option (Nat×Nat)) (r:Path),resF w l (st ++ r)=resF w (resF w l st) r
 | [],l,r=>by simp[resF]
 | (e,i,f) :: st,some (b,c),r=>by
   simp only[List.cons_append,resF]
   split
   ·exact v05 w st _ r
   ·exact v05 w st _ r
   ·cases r with
    | nil=>simp[resF]
    | cons s r=>obtain⟨_,_,_⟩:=s; simp[resF]
 | (e,i,f) :: st,none,r=>by
   simp only[List.cons_append,resF]
   cases r with
   | nil=>simp[resF]
   | cons s r=>obtain⟨_,_,_⟩:=s; simp[resF]
theorem t1g {e id:Nat} {st:Path} {i f b cap:Nat} {c:C} {v:Value} {F:Fp} (hr:resF w (lc id) st=some (b,cap)) (hc:w.cell? ⟨b,i*e+f,none⟩=some v) (h:repC w N c v F) :
 repT w N lc (b04 e id st i f c) v fz:=by
 cases c with
 | ar own t2 e2 ys=>
   cases own with
   | false=>
     have:=h.1
     subst this
     exact u07 h
   | true=>
     simp only[b04,repT]
     rcases t0o h with⟨rfl,a2,rfl⟩ | ⟨b2,cap2,cur2,G',hp2,rfl,hb2,hl2,hc2,hs2,hr2,rfl⟩
     ·exact⟨by trivial,.inl ⟨by trivial,by trivial,a2,rfl⟩⟩
     ·refine⟨by trivial,.inr ⟨b2,cap2,⟨b2,0,none⟩,?_,rfl,by omega,hc2,fun _=>by simp⟩⟩
      rw[v05,hr]
      simp only[resF,hc]
      rw[if_neg (by omega)]
 | int k n=>have:=h.2; subst this; exact u07 h
 | bool k=>have:=h.2; subst this; exact u07 h
 | str k=>have:=h.2; subst this; exact u07 h
 | np=>have:=h.2; subst this; exact u07 h
 | fn g cap=>have:=h.1; subst this; exact u07 h
 | dead=>have:=h.1; subst this; exact u07 h
 | op t2 e2 cs=>
   simp only[repC] at h
   obtain⟨b2,cur2,G',rfl,hb2,hl2,hs2,hr2,rfl⟩:=h
   simp only[b04,repT]
   refine⟨by trivial,b2,1,?_,by simp⟩
   rw[v05,hr]
   simp only[resF,hc]
 | vw=>exact h.elim
 | pt=>exact h.elim
 | ps=>exact h.elim
theorem q0y {e id:Nat} {st:Path} {i b cap:Nat} (hr:resF w (lc id) st=some (b,cap)): ∀(cs:List C) (vs:List Value) (f:Nat) (F:Fp),z0d w N cs vs F→
 (∀j v,vs[j]?=some v→w.cell? ⟨b,i*e+(f+j),none⟩=some v)→z0m w N lc (r0l e id st i f cs) vs fz
 | [],vs,f,F,h,_=>by
   simp only[z0d] at h
   exact⟨h.1,rfl⟩
 | c :: cs,_,f,_,h,hc=>by
   simp only[z0d] at h
   obtain⟨v,vs',F1,F2,rfl,rfl,h1,h2⟩:=h
   refine⟨v,vs',fz,fz,rfl,(z0g _).symm,t1g hr (by simpa using hc 0 v rfl) h1,q0y hr cs vs' (f+1) F2 h2 fun j v hj=>?_⟩
   have:=hc (j+1) v (by simpa using hj)
   rwa [show f+(j+1)=f+1+j from by omega] at this
theorem s0s {e id:Nat} {st:Path} {i:Nat}: ∀(cs:List C) (f:Nat),(r0l e id st i f cs).length=cs.length
 | [],_=>rfl
 | c :: cs,f=>by simp[r0l,s0s cs (f+1)]
theorem e0a: ∀{xs:List (Bool×List C)} {gs:List Value} {F:Fp} {i:Nat} {ag:Bool} {cs:List C},u0m w N lc xs gs F→xs[i]?=some (ag,cs)→
 ∃g F1 F2,gs[i]?=some g∧(∀b,F1 b+F2 b≤F b)∧repA w N lc (mkA ag cs) g F1∧u0m w N lc (xs.set i (false,[.dead])) gs F2
 | [],_,_,_,_,_,_,hi=>by simp at hi
 | (ag0,cs0) :: r,_,_,0,ag,cs,h,hi=>by
   obtain⟨g,gs',F1,F2,rfl,rfl,h1,h2⟩:=h
   simp only[List.getElem?_cons_zero,Option.some.injEq,Prod.mk.injEq] at hi
   obtain⟨rfl,rfl⟩:=hi
   refine⟨g,F1,F2,rfl,fun b=>Nat.le_refl _,?_,?_⟩
   ·cases ag0 with
    | true=>obtain⟨vs,hg,h1⟩:=h1; exact⟨vs,hg,h1⟩
    | false=>obtain⟨c,rfl,h1⟩:=h1; exact h1
   ·simp only[List.set_cons_zero,u0m]
    exact⟨g,gs',fz,F2,rfl,(v0c _).symm,by simp[repT],h2⟩
 | (ag0,cs0) :: r,_,_,i+1,ag,cs,h,hi=>by
   obtain⟨g,gs',F1,F2,rfl,rfl,h1,h2⟩:=h
   simp only[List.getElem?_cons_succ] at hi
   obtain⟨g',G1,G2,hg,hle,ha,hs⟩:=e0a h2 hi
   refine⟨g',G1,add F1 G2,by simpa using hg,fun b=>by have:=hle b; simp only[add]; omega,ha,?_⟩
   simp only[List.set_cons_succ,u0m]
   exact⟨g,gs',F1,G2,rfl,rfl,h1,hs⟩
end
theorem b09 (a:Addr) (ha:a.spot=none) (n:Nat):a.add n=⟨a.block,a.off+n,none⟩:=by
 obtain⟨b,o,s⟩:=a
 simp only at ha
 subst ha
 unfold Addr.add
 split
 ·rename_i h; subst h; rfl
 ·rfl
theorem x0i (b o n:Nat):(⟨b,o,none⟩:Addr).add n=⟨b,o+n,none⟩:=b09 _ rfl n
theorem w0s {P:Program} {w:World} {t n:Nat} {ag:Bool} (hs:s00 P t n) (ha:z1i P t ag) (h1:ag=false→n=1) (b off:Nat) (vs:List Value) (hl:vs.length=n)
 (hc: ∀j v,vs[j]?=some v→w.cell? ⟨b,off+j,none⟩=some v) :
 (loadVar t ⟨b,off,none⟩).run P w = .ok (if ag then .agg vs.toArray else vs.getD 0 undef) w:=by
 obtain⟨i,hi,rfl⟩:=hs
 obtain⟨d,hd,rfl⟩:=ha
 have hagg:(isAgg t).run P w = .ok (aggD d) w:=by
  unfold isAgg
  simp only[Sem.run_bind,run_underlying hd,Result.andThen_ok]
  cases d <;> rfl
 cases hag:aggD d with
 | true=>
   have hload:(loadCells ⟨b,off,none⟩ i.size).run P w = .ok vs.toArray w:=by
    rw[← hl]
    exact run_loadCells_list w _ vs fun j v hj=>by rw[b09 _ rfl]; exact hc j v hj
   simp[loadVar,hagg,hag,sizeOf,typeInfo,hi,hload]
 | false=>
   have h1':=h1 hag
   have hv: ∃v,vs=[v]:=by
    match vs,hl.trans h1' with
    | [v],_=>exact⟨v,rfl⟩
   obtain⟨v,rfl⟩:=hv
   have:=hc 0 v rfl
   simp only[Nat.add_zero] at this
   simp[loadVar,hagg,hag,this]
end Go.Am
namespace Go.Am
section
variable {P:Program} {w:World} {N:Nat→Prop} {lc:Loc} {tmps:Array Value} {ds:List Deferred} {F G:Fp} {σ σ1:St}
def Agree (w w':World):Prop:=∀b,b<w.heap.size→w'.heap[b]?=w.heap[b]?
theorem Agree.refl (w:World):Agree w w:=fun _ _=>rfl
theorem z12 {t:TypeId} {xs:Array Value} {off:Nat} {v:Value} (ht:(∃k,P.underlying t=some (.int k))∨P.underlying t=some .string) (hv:xs[off]?=some v) (w':World):(part t xs off).run P w' = .ok v w':=by
 rcases ht with⟨k,ht⟩ | ht <;> simp[part,isAgg,run_underlying ht,hv]
theorem m07 {xs ys:Array Value} {d:Nat} (w':World): ∀{fs:List Field} {ks:List Bool} {i:Nat} {a b:List C} {va vb:List Value} {F1 F2:Fp} {r:Bool},z1k P fs ks i→eqSc ks a b=some r→
 z0m w N lc a va F1→z0m w N lc b vb F2→(∀j v,va[j]?=some v→xs[i+j]?=some v)→(∀j v,vb[j]?=some v→ys[i+j]?=some v)→(Op.eqFields (d+1) xs ys fs).run P w' = .ok r w'
 | [],[],i,a,b,va,vb,F1,F2,r,hf,he,ha,hb,h1,h2=>by
   cases a with
   | cons=>simp[eqSc] at he
   | nil=>
     cases b with
     | nil=>simp only[eqSc,Option.some.injEq] at he; subst he; simp[Op.eqFields]
     | cons=>simp[eqSc] at he
 | [],_ :: _,_,_,_,_,_,_,_,_,hf,_,_,_,_,_=>hf.elim
 | _ :: _,[],_,_,_,_,_,_,_,_,hf,_,_,_,_,_=>hf.elim
 | f :: fs,s :: ks,i,a,b,va,vb,F1,F2,r,hf,he,ha,hb,h1,h2=>by
   simp only[z1k] at hf
   obtain⟨hn,hoff,hty,hf'⟩:=hf
   have hty2:(∃k,P.underlying f.type=some (.int k))∨P.underlying f.type=some .string:=by
    cases s
    ·exact .inl (by simpa using hty)
    ·exact .inr (by simpa using hty)
   have q: ∀{c c':C} {a' b':List C} {x r':Bool},a=c :: a'→b=c' :: b'→eqSc ks a' b'=some r'→r=(x && r')→
    (∀v u G G',repT w N lc c v G→repT w N lc c' u G'→(Op.equalIn (d+1) f.type v u).run P w' = .ok x w')→(Op.eqFields (d+1) xs ys (f :: fs)).run P w' = .ok r w':=by
    intro c c' a' b' x r' rfl rfl hr' hrr hx
    simp only[z0m] at ha hb
    obtain⟨v,va',G1,G2,rfl,rfl,hv,ha'⟩:=ha
    obtain⟨u,vb',G3,G4,rfl,rfl,hu,hb'⟩:=hb
    have e1:xs[i]?=some v:=by simpa using h1 0 v rfl
    have e2:ys[i]?=some u:=by simpa using h2 0 u rfl
    have k1: ∀j v',va'[j]?=some v'→xs[i+1+j]?=some v':=fun j v' hj=>by rw[Nat.add_assoc,Nat.add_comm 1 j]; exact h1 (j+1) v' hj
    have k2: ∀j v',vb'[j]?=some v'→ys[i+1+j]?=some v':=fun j v' hj=>by rw[Nat.add_assoc,Nat.add_comm 1 j]; exact h2 (j+1) v' hj
    have hrest:(Op.eqFields (d+1) xs ys fs).run P w' = .ok r' w':=m07 w' hf' hr' ha' hb' k1 k2
    have hxx:=hx v u _ _ hv hu
    simp only[Op.eqFields,if_pos hn,Sem.run_bind,hoff,z12 hty2 e1,z12 hty2 e2,Result.andThen_ok,hxx]
    subst hrr
    cases x with
    | false=>simp
    | true=>simpa using hrest
   cases a with
   | nil=>cases s <;> simp[eqSc] at he
   | cons c a=>
     cases b with
     | nil=>cases s <;> cases c <;> simp[eqSc] at he
     | cons c' b=>
       cases s with
       | false=>
         cases c with
         | int k n=>
           cases c' with
           | int k' n'=>
             simp only[eqSc] at he
             split at he
             case isFalse=>cases he
             rename_i hk
             subst hk
             obtain⟨r',hr',hrr⟩:=Option.map_eq_some_iff.1 he
             refine q rfl rfl hr' hrr.symm ?_
             rintro v u G G' ⟨rfl,_⟩ ⟨rfl,_⟩
             obtain⟨kk,hty⟩: ∃k,P.underlying f.type=some (.int k):=by simpa using hty
             exact run_equalIn_int w' d f.type k kk n n' hty
           | _=>simp[eqSc] at he
         | _=>simp[eqSc] at he
       | true=>
         cases c with
         | str s=>
           cases c' with
           | str s'=>
             simp only[eqSc] at he
             obtain⟨r',hr',hrr⟩:=Option.map_eq_some_iff.1 he
             refine q rfl rfl hr' hrr.symm ?_
             rintro v u G G' ⟨rfl,_⟩ ⟨rfl,_⟩
             exact run_equalIn_string w' d f.type s s' (by simpa using hty)
           | _=>simp[eqSc] at he
         | _=>simp[eqSc] at he
theorem q0h: ∀{rows:List (List C)} {bs:List UInt8} {vals:List Value} {F:Fp},s0h rows=some bs→z09 w N 1 rows vals F→
 ∃ns:List Int,vals=ns.map (Value.int .u8)∧bs=ns.map (fun n=>UInt8.ofNat n.toNat)
 | [],bs,vals,F,h,hr=>by
   simp only[s0h,Option.some.injEq] at h
   simp only[z09] at hr
   exact⟨[],by simp[hr.1],by simp[← h]⟩
 | r :: rs,bs,vals,F,h,hr=>by
   simp only[s0h] at h
   split at h
   case h_2=>cases h
   rename_i n bs' hb
   simp only[Option.some.injEq] at h
   subst h
   simp only[z09] at hr
   obtain⟨v1,v2,F1,F2,rfl,_,rfl,h1,h2⟩:=hr
   obtain⟨ns,rfl,rfl⟩:=q0h hb h2
   simp only[z0d] at h1
   obtain⟨v,vs',F3,F4,rfl,rfl,hv,rfl,rfl⟩:=h1
   simp only[repC] at hv
   obtain⟨rfl,rfl⟩:=hv
   exact⟨n :: ns,by simp,by simp⟩
theorem m0b: ∀(ns:List Int) (s:ByteArray),ns.foldl (fun r n=>r.push (UInt8.ofNat n.toNat)) s=⟨s.data ++ (ns.map (fun n=>UInt8.ofNat n.toNat)).toArray⟩
 | [],s=>by cases s; simp
 | n :: ns,s=>by
   rw[List.foldl_cons,m0b ns]
   simp[ByteArray.push]
theorem h0r (src dst e:TypeId) (hs:P.underlying src=some (.slice e)) (he:P.underlying e=some (.int .u8)) (hd:P.underlying dst=some .string) (w':World) (a:Option Addr) (n c:Nat) (ns:List Int)
 (hn:ns.length=n) (h:n≠0→∃ad,a=some ad∧∀j u,(ns.map (Value.int .u8))[j]?=some u→w'.cell? (ad.add j)=some u) :
 (convert src dst (.slice a n c)).run P w' = .ok (.string ⟨(ns.map (fun n=>UInt8.ofNat n.toNat)).toArray⟩) w':=by
 rw[run_convert_bytes_string w' src dst e a n c hs he hd]
 have key: ∀ad:Addr,(∀j u,(ns.map (Value.int .u8))[j]?=some u→w'.cell? (ad.add j)=some u)→(Conv.bytesToString (.slice (some ad) n c)).run P w' = .ok (.string ⟨(ns.map (fun n=>UInt8.ofNat n.toNat)).toArray⟩) w':=by
  intro ad hc
  have hl:=run_loadCells_list (P:=P) w' ad _ hc
  rw[List.length_map,hn] at hl
  rw[run_bytesToString w' ad n c ns hl,m0b]
  simp
 by_cases hz:n=0
 ·have h0:ns=[]:=List.eq_nil_of_length_eq_zero (by omega)
  cases a with
  | none=>subst h0; simp[Conv.bytesToString]; rfl
  | some ad=>exact key ad (fun j u hj=>by rw[h0] at hj; simp at hj)
 ·obtain⟨ad,rfl,hc⟩:=h hz
  exact key ad hc
def regI:I→Bool
 | .mkf .. | .iaa .. | .mv .. | .nil .. | .ext .. | .fad .. | .len .. | .iad .. | .bin .. | .not .. | .pick .. | .slc .. | .asn .. | .asf .. =>true
 | _=>false
theorem w1l: ∀{xs:List X} {os:List Operand} {cs:List C},XL xs os→evCs σ xs=some cs→Hold w N lc σ tmps F G→z0m w N lc cs (os.map (Act.mk tmps ds).eval) fz
 | [],[],cs,_,h,_=>by
   simp only[evCs,Option.some.injEq] at h
   subst h
   exact⟨rfl,rfl⟩
 | [],_ :: _,_,hx,_,_=>hx.elim
 | _ :: _,[],_,hx,_,_=>hx.elim
 | x :: xs,o :: os,cs,hx,h,hh=>by
   simp only[evCs] at h
   split at h
   case h_2=>cases h
   rename_i c cs' hc hcs
   split at h
   ·cases h
   rename_i haff
   simp only[Option.some.injEq] at h
   subst h
   obtain⟨G1,hr,_⟩:=y0r (ds:=ds) hx.1 hc hh
   have hz:G1=fz:=s0p (by simpa using haff) hr
   subst hz
   exact⟨_,_,fz,fz,rfl,(z0g _).symm,hr,w1l hx.2 hcs hh⟩
theorem o02 {o:Oper} {i:I} {a:A} (hi:IsV P o.op i) (h:runV i σ=some (a,σ1)) (hh:Hold w N lc σ tmps F G) :
 ∃v G1,(∀w',regI i=true∨Agree w w'→(execOp (Act.mk tmps ds).eval o).run P w' = .ok (.value v) w')∧repA w N lc a v G1∧Hold w N lc σ1 tmps F (add G G1):=by
 have h0:Hold w N lc σ tmps F (add G fz):=by rw[z0g]; exact hh
 obtain⟨dst,op,ty,pos,after,guard⟩:=o
 simp only at hi
 cases hi with
 | mv hx=>
   obtain⟨G1,h1,h2,_⟩:=y0w (ds:=ds) hx h hh
   exact⟨_,G1,fun w' hw'=>by simp[execOp],h1,h2⟩
 | als hx=>
   obtain⟨G1,h1,h2,_⟩:=y0w (ds:=ds) hx h hh
   exact⟨_,G1,fun w' hw'=>by simp[execOp],h1,h2⟩
 | pick hc ha hb=>
   simp only[runV] at h
   split at h
   case h_2=>cases h
   rename_i t hev
   obtain⟨G0,hr0,_⟩:=y0r (ds:=ds) hc hev hh
   have hv:=hr0.1
   cases t with
   | true=>
     simp only[if_true] at h
     obtain⟨G1,h1,h2,_⟩:=y0w (ds:=ds) ha h hh
     exact⟨_,G1,fun w' hw'=>by simp[execOp,hv,asBool],h1,h2⟩
   | false=>
     simp only[Bool.false_eq_true,if_false] at h
     obtain⟨G1,h1,h2,_⟩:=y0w (ds:=ds) hb h hh
     exact⟨_,G1,fun w' hw'=>by simp[execOp,hv,asBool],h1,h2⟩
 | @bin op0 t0 x0 y0 yt0 x1 y1 hx hy=>
   simp only[runV] at h
   split at h
   case h_2=>cases h
   rename_i x y hex hey
   obtain⟨G1,hr1,_⟩:=y0r (ds:=ds) hx hex hh
   obtain⟨G2,hr2,_⟩:=y0r (ds:=ds) hy hey hh
   have key: ∀(op:BinOp) (t:TypeId) (x0 y0:Operand),repA w N lc x ((Act.mk tmps ds).eval x0) G1→repA w N lc y ((Act.mk tmps ds).eval y0) G2→
    (q0e op x y).map (fun c=>(A.one c,σ))=some (a,σ1)→∃v G1,(∀w':World,(binOp op t ((Act.mk tmps ds).eval x0) ((Act.mk tmps ds).eval y0)).run P w' = .ok v w')∧
      (∀w':World,(eqGuard op t x0 y0 ((Act.mk tmps ds).eval x0) ((Act.mk tmps ds).eval y0)).run P w' = .ok () w')∧repA w N lc a v G1∧Hold w N lc σ1 tmps F (add G G1):=by
    intro op t x0 y0 h1 h2 h
    cases hb:q0e op x y with
    | none=>rw[hb] at h; simp at h
    | some c=>
      rw[hb] at h
      simp only[Option.map_some,Option.some.injEq,Prod.mk.injEq] at h
      obtain⟨rfl,rfl⟩:=h
      obtain⟨v,hrun,hrep,hq⟩:=x11 (P:=P) hb h1 h2 t
      exact⟨v,fz,hrun,hq _ _,hrep,h0⟩
   obtain⟨v,G3,hrun,hq,hrep,hH⟩:=key _ t0 _ _ hr1 hr2 h
   exact⟨v,G3,fun w' hw'=>by simp only[execOp,Sem.run_bind,hq,hrun,Result.andThen_ok,Sem.run_pure],hrep,hH⟩
 | beq hx hy ht=>
   simp only[runV] at h
   split at h
   case h_2=>cases h
   rename_i x y hex hey
   obtain⟨G1,hr1,_⟩:=y0r (ds:=ds) hx hex hh
   obtain⟨G2,hr2,_⟩:=y0r (ds:=ds) hy hey hh
   have hv1:=hr1.1
   have hv2:=hr2.1
   simp only[Option.some.injEq,Prod.mk.injEq] at h
   obtain⟨rfl,rfl⟩:=h
   exact⟨.bool (x == y),fz,fun w' hw'=>by
    have he:=run_equal_bool (P:=P) (w:=w') _ x y ht
    simp[execOp,hv1,hv2,eqGuard,binOp,he],⟨by simp,rfl⟩,h0⟩
 | bne hx hy ht=>
   simp only[runV] at h
   split at h
   case h_2=>cases h
   rename_i x y hex hey
   obtain⟨G1,hr1,_⟩:=y0r (ds:=ds) hx hex hh
   obtain⟨G2,hr2,_⟩:=y0r (ds:=ds) hy hey hh
   have hv1:=hr1.1
   have hv2:=hr2.1
   simp only[Option.some.injEq,Prod.mk.injEq] at h
   obtain⟨rfl,rfl⟩:=h
   exact⟨.bool (!(x == y)),fz,fun w' hw'=>by
    have he:=run_equal_bool (P:=P) (w:=w') _ x y ht
    simp[execOp,hv1,hv2,eqGuard,binOp,he],⟨by simp,rfl⟩,h0⟩
 | not hx=>
   simp only[runV] at h
   split at h
   case h_2=>cases h
   rename_i b hev
   obtain⟨G0,hr0,_⟩:=y0r (ds:=ds) hx hev hh
   have hv:=hr0.1
   simp only[Option.some.injEq,Prod.mk.injEq] at h
   obtain⟨rfl,rfl⟩:=h
   exact⟨_,fz,fun w' hw'=>by simp only[execOp,hv,Op.unary]; rfl,⟨rfl,rfl⟩,h0⟩
 | neg hx=>
   simp only[runV] at h
   split at h
   case h_2=>cases h
   rename_i k n hev
   obtain⟨G0,hr0,_⟩:=y0r (ds:=ds) hx hev hh
   have hv:=hr0.1
   simp only[Option.some.injEq,Prod.mk.injEq] at h
   obtain⟨rfl,rfl⟩:=h
   exact⟨_,fz,fun w' hw'=>by simp only[execOp,hv,Op.unary,Op.intArith]; rfl,⟨rfl,rfl⟩,h0⟩
 | conv hx hs hd=>
   simp only[runV] at h
   split at h
   case h_2=>cases h
   rename_i k n hev
   obtain⟨G0,hr0,_⟩:=y0r (ds:=ds) hx hev hh
   have hv:=hr0.1
   simp only[Option.some.injEq,Prod.mk.injEq] at h
   obtain⟨rfl,rfl⟩:=h
   exact⟨_,fz,fun w' hw'=>by simp[execOp,hv,convert,run_underlying hs,run_underlying hd,Conv.intToInt],⟨rfl,rfl⟩,h0⟩
 | @lenS t9 el9 x9 x9' hx ht=>
   simp only[runV] at h
   split at h
   ·rename_i n hev
    obtain⟨G0,hr0,_⟩:=y0r (ds:=ds) hx hev hh
    simp only[Option.some.injEq,Prod.mk.injEq] at h
    obtain⟨rfl,rfl⟩:=h
    obtain⟨_,⟨rfl,rfl,a0,hv⟩ | ⟨b,cap,ad,_,hv,_⟩⟩:=hr0
    ·exact⟨_,fz,fun w' hw'=>by simp[execOp,resolve,invoke,builtin,hv,Builtin.len_,run_underlying ht,goInt],⟨rfl,rfl⟩,h0⟩
    ·exact⟨_,fz,fun w' hw'=>by simp[execOp,resolve,invoke,builtin,hv,Builtin.len_,run_underlying ht,goInt],⟨rfl,rfl⟩,h0⟩
   ·rename_i own t e xs hev
    obtain⟨G0,hr0,_⟩:=y0r (ds:=ds) hx hev hh
    simp only[Option.some.injEq,Prod.mk.injEq] at h
    obtain⟨rfl,rfl⟩:=h
    have hv: ∃A c,(Act.mk tmps ds).eval x9=Value.slice A xs.length c:=by
     cases own with
     | true=>
       simp only[repA,repT,repC] at hr0
       rcases hr0 with⟨rfl,a0,hv⟩ | ⟨b,cap,cur,F',hv,_⟩
       ·exact⟨_,_,hv⟩
       ·exact⟨_,_,hv⟩
     | false=>
       simp only[repA,repT,repC] at hr0
       obtain⟨_,A,cap,hv,_⟩:=hr0
       exact⟨_,_,hv⟩
    obtain⟨A,c,hv⟩:=hv
    exact⟨_,fz,fun w' hw'=>by simp[execOp,resolve,invoke,builtin,hv,Builtin.len_,run_underlying ht,goInt],⟨rfl,rfl⟩,h0⟩
   ·cases h
 | lenT hx ht=>
   simp only[runV] at h
   split at h
   case h_2=>cases h
   rename_i s hev
   obtain⟨G0,hr0,_⟩:=y0r (ds:=ds) hx hev hh
   have hv:=hr0.1
   simp only[Option.some.injEq,Prod.mk.injEq] at h
   obtain⟨rfl,rfl⟩:=h
   exact⟨_,fz,fun w' hw'=>by simp[execOp,resolve,invoke,builtin,hv,Builtin.len_,run_underlying ht,goInt],⟨rfl,rfl⟩,h0⟩
 | max hx hy=>
   simp only[runV] at h
   split at h
   case h_2=>cases h
   rename_i k x k' y hex hey
   obtain⟨G1,hr1,_⟩:=y0r (ds:=ds) hx hex hh
   obtain⟨G2,hr2,_⟩:=y0r (ds:=ds) hy hey hh
   have hv1:=hr1.1
   have hv2:=hr2.1
   split at h
   case isFalse=>cases h
   simp only[Option.some.injEq,Prod.mk.injEq] at h
   obtain⟨rfl,rfl⟩:=h
   exact⟨_,fz,fun w' hw'=>by simp only[execOp,resolve,invoke,builtin,Sem.run_bind,Sem.run_pure,Result.andThen_ok,List.map_toArray,List.map_cons,List.map_nil,hv1,hv2,Builtin.max_,List.foldlM_cons,List.foldlM_nil,Builtin.max2,if_true],⟨rfl,rfl⟩,h0⟩
 | min hx hy=>
   simp only[runV] at h
   split at h
   case h_2=>cases h
   rename_i k x k' y hex hey
   obtain⟨G1,hr1,_⟩:=y0r (ds:=ds) hx hex hh
   obtain⟨G2,hr2,_⟩:=y0r (ds:=ds) hy hey hh
   have hv1:=hr1.1
   have hv2:=hr2.1
   split at h
   case isFalse=>cases h
   simp only[Option.some.injEq,Prod.mk.injEq] at h
   obtain⟨rfl,rfl⟩:=h
   exact⟨_,fz,fun w' hw'=>by simp only[execOp,resolve,invoke,builtin,Sem.run_bind,Sem.run_pure,Result.andThen_ok,List.map_toArray,List.map_cons,List.map_nil,hv1,hv2,Builtin.min_,List.foldlM_cons,List.foldlM_nil,Builtin.min2,Bool.false_eq_true,if_false],⟨rfl,rfl⟩,h0⟩
 | @ext x0 n i0 hx=>
   subst hx
   simp only[runV] at h
   cases hl:look σ.tm n with
   | none=>rw[hl] at h; simp at h
   | some a0=>
     rw[hl] at h
     cases a0 with
     | one c=>simp at h
     | agg cs=>simp at h
     | tup xs=>
       simp only at h
       cases hx:xs[i0]? with
       | none=>rw[hx] at h; simp at h
       | some y=>
         obtain⟨ag,cs⟩:=y
         rw[hx] at h
         simp only[Option.some.injEq,Prod.mk.injEq] at h
         obtain⟨rfl,rfl⟩:=h
         obtain⟨Ft,Fo,hle,ht,ho⟩:=hh
         obtain⟨F1,F2,hle',h1,h2⟩:=x00 σ.tm Ft n _ hl ht
         obtain⟨gs,hv,htup⟩:=h1
         obtain⟨g,G1,G2,hg,hle2,hg1,hset⟩:=e0a htup hx
         have hrun: ∀w':World,(execOp (Act.mk tmps ds).eval { dst,op:=Op.extract (Operand.tmp n) i0,type:=ty,pos,after,guard }).run P w' = .ok (.value g) w':=by
          intro w'
          have hv':(Act.mk tmps ds).eval (.tmp n)=Value.tuple gs.toArray:=hv
          simp[execOp,hv',Instr.extract,hg]
         refine⟨g,G1,fun w' _=>hrun w',hg1,?_⟩
         cases haff:(mkA ag cs).aff with
         | false=>
           have:=h0o haff hg1
           subst this
           simp only[Bool.false_eq_true,if_false]
           exact⟨Ft,Fo,fun b=>by have:=hle b; simp only[add,fz]; omega,ht,ho⟩
         | true=>
           simp only[if_true]
           have hd:n<tmps.size:=by
            rcases Nat.lt_or_ge n tmps.size with h | h
            ·exact h
            ·have:tmps.getD n undef=undef:=by simp[Array.getD_eq_getD_getElem?,Array.getElem?_eq_none h]
             rw[this] at hv
             simp only[undef] at hv
             injection hv with hv
             have:gs=[]:=by simpa using hv.symm
             subst this
             simp at hg
           obtain⟨F',hF',h'⟩:=e09 (a:=A.tup (xs.set i0 (false,[.dead]))) (v:=tmps.getD n undef) hd ⟨gs,hv,hset⟩ h2
           have hsame:tmps.setIfInBounds n (tmps.getD n undef)=tmps:=by
            apply Array.ext'
            apply List.ext_getElem?
            intro k
            simp[Array.getD_eq_getD_getElem?,List.getElem?_set,hd]
            intro hk
            subst hk
            simp[hd]
           rw[hsame] at h'
           simp only[put,i0l] at h'
           exact⟨F',Fo,fun b=>by have h1:=hle b; have h2:=hle' b; have h3:=hF' b; have h4:=hle2 b; simp only[add]; omega,h',ho⟩
 | @fld t9 fs9 f9 fl n9 ag9 x9 x9' hx ht hf hs ha h1=>
   simp only[runV] at h
   split at h
   case h_2=>cases h
   rename_i cs hev
   obtain⟨G0,hr0,_⟩:=y0r (ds:=ds) hx hev hh
   obtain⟨vs,hv,hrow⟩:=hr0
   split at h
   case isFalse=>cases h
   rename_i hc
   simp only[Option.some.injEq,Prod.mk.injEq] at h
   obtain⟨rfl,rfl⟩:=h
   obtain⟨F1,_,hr1⟩:=u08 (w:=w) (N:=N) (lc:=lc) _ hrow
   obtain⟨F2,_,hr2⟩:=t0q (w:=w) (N:=N) (lc:=lc) _ hr1
   have hz:=t08 hc.2 hr2
   subst hz
   obtain⟨i,hi,rfl⟩:=hs
   obtain⟨d,hd,rfl⟩:=ha
   refine⟨_,fz,?_,l0d (by rw[List.length_take,List.length_drop]; omega) h1 hr2,h0⟩
   have hagg: ∀w':World,(isAgg fl.type).run P w' = .ok (aggD d) w':=by
    intro w'
    unfold isAgg
    simp only[Sem.run_bind,run_underlying hd,Result.andThen_ok]
    cases d <;> rfl
   have hlen:=t09 hrow
   intro w' hw'
   have hagg:=hagg w'
   cases hag:aggD d with
   | true=>
     simp[execOp,hv,Instr.field,run_underlying ht,hf,asAgg,part,hagg,hag,sizeOf,typeInfo,hi]
   | false=>
     have:=h1 hag
     simp only[execOp,hv,Instr.field,Sem.run_bind,run_underlying ht,hf,asAgg,part,hagg,hag,Result.andThen_ok,Sem.run_pure,Bool.false_eq_true,if_false]
     have hlt:fl.offset<vs.length:=by omega
     have hget:vs.toArray[fl.offset]?=some vs[fl.offset]:=by simp[hlt]
     rw[hget]
     simp only[Sem.run_pure,Result.andThen_ok]
     congr 2
     rw[List.getD_eq_getElem?_getD,List.getElem?_take,List.getElem?_drop]
     simp[this,hlt]
 | @idx t9 x9 i9 x9' i9' hx hy ht=>
   simp only[runV] at h
   split at h
   case h_2=>cases h
   rename_i s k i hex hey
   obtain⟨G1,hr1,_⟩:=y0r (ds:=ds) hx hex hh
   obtain⟨G2,hr2,_⟩:=y0r (ds:=ds) hy hey hh
   have hv1:=hr1.1
   have hv2:=hr2.1
   split at h
   case isFalse=>cases h
   rename_i hb
   simp only[Option.some.injEq,Prod.mk.injEq] at h
   obtain⟨rfl,rfl⟩:=h
   have hlt:i.toNat<s.size:=by omega
   have hget:s[i.toNat]?=some (s.data.toList.getD i.toNat 0):=by
    have h1:s.data.toList.getD i.toNat 0=s[i.toNat]:=by
     rw[List.getD_eq_getElem?_getD,List.getElem?_eq_getElem (by simpa using hlt)]
     rfl
    rw[h1]
    exact getElem?_pos s i.toNat hlt
   exact⟨_,fz,fun w' hw'=>by simp only[execOp,hv1,hv2,Instr.index,Sem.run_bind,asIntOf,Sem.run_pure,Result.andThen_ok,run_underlying ht,if_pos hb.1,hget],⟨rfl,rfl⟩,h0⟩
 | @nil x9 x9' hx=>
   simp only[runV] at h
   have hp: ∀(w':World) (c:C) (g:Value) (G1:Fp),repA w N lc (.one c) g G1→(match c with | .pt .. =>True | .ps .. =>True | .fn .. =>True | _=>False)→
    (execOp (Act.mk tmps ds).eval { dst,op:=Op.nilCheck x9,type:=ty,pos,after,guard }).run P w' = .ok (.value ((Act.mk tmps ds).eval x9)) w'∨(Act.mk tmps ds).eval x9≠g:=by
    intro w' c g G1 hr hc
    by_cases hg:(Act.mk tmps ds).eval x9=g
    ·left
     cases c with
     | pt=>obtain⟨_,b,cap,_,hv⟩:=hr; rw[hv] at hg; simp[execOp,hg]
     | ps=>obtain⟨_,b,off,cur,ty',fr,hv,_⟩:=hr; rw[hv] at hg; simp[execOp,hg]
     | fn f cap=>obtain⟨_,vs,hv,_⟩:=hr; rw[hv] at hg; simp[execOp,hg]
     | _=>exact hc.elim
    ·exact .inr hg
   split at h
   case h_4=>cases h
   all_goals
    rename_i hev
    obtain⟨G0,hr0,_⟩:=y0r (ds:=ds) hx hev hh
    obtain⟨G1,h1,h2,_⟩:=y0w (ds:=ds) hx h hh
    refine⟨_,G1,?_,h1,h2⟩
    intro w' hw'
    rcases hp w' _ _ _ hr0 trivial with h | h
    ·exact h
    ·exact absurd rfl h
 | @idxa t9 m9 el9 n9 ag9 x9 i9 x9' i9' hx hy ht hs ha h1=>
   simp only[runV] at h
   split at h
   case h_2=>cases h
   rename_i cs k i hex hey
   obtain⟨G0,hr0,_⟩:=y0r (ds:=ds) hx hex hh
   obtain⟨vs,hv,hrow⟩:=hr0
   obtain⟨G2,hr2,_⟩:=y0r (ds:=ds) hy hey hh
   have hv2:=hr2.1
   split at h
   case isFalse=>cases h
   rename_i hc
   obtain⟨hc0,hc1,hc2,hc3⟩:=hc
   simp only[Option.some.injEq,Prod.mk.injEq] at h
   obtain⟨rfl,rfl⟩:=h
   obtain⟨F1,_,hr1⟩:=u08 (w:=w) (N:=N) (lc:=lc) _ hrow
   obtain⟨F2,_,hr2⟩:=t0q (w:=w) (N:=N) (lc:=lc) _ hr1
   have hz:=t08 hc3 hr2
   subst hz
   obtain⟨ii,hi,rfl⟩:=hs
   obtain⟨d,hd,rfl⟩:=ha
   refine⟨_,fz,?_,l0d (by rw[List.length_take,List.length_drop]; omega) h1 hr2,h0⟩
   have hagg: ∀w':World,(isAgg el9).run P w' = .ok (aggD d) w':=by
    intro w'
    unfold isAgg
    simp only[Sem.run_bind,run_underlying hd,Result.andThen_ok]
    cases d <;> rfl
   have hlen:=t09 hrow
   intro w' hw'
   have hagg:=hagg w'
   cases hag:aggD d with
   | true=>
     simp[execOp,hv,hv2,Instr.index,asIntOf,run_underlying ht,if_pos (And.intro hc0 hc1),part,hagg,hag,sizeOf,typeInfo,hi]
   | false=>
     have:=h1 hag
     have hlt:i.toNat*ii.size<vs.length:=by omega
     have hget:vs[i.toNat*ii.size]?=some vs[i.toNat*ii.size]:=by simp[hlt]
     simp[execOp,hv,hv2,Instr.index,asIntOf,run_underlying ht,if_pos (And.intro hc0 hc1),part,hagg,hag,sizeOf,typeInfo,hi,hget]
     rw[List.getElem?_take,List.getElem?_drop]
     have hlt':i.toNat<vs.length:=by rw[this] at hlt; omega
     simp[this,List.getElem?_eq_getElem hlt']
 | @mkf f9 os9 xs9 hx=>
   simp only[runV] at h
   split at h
   case h_2=>cases h
   rename_i cs hcs
   simp only[Option.some.injEq,Prod.mk.injEq] at h
   obtain⟨rfl,rfl⟩:=h
   refine⟨_,fz,fun w' _=>?_,⟨rfl,_,rfl,w1l (ds:=ds) hx hcs hh⟩,h0⟩
   simp[execOp,Instr.makeFunc]
 | @iaa t9 m9 el9 e9 x9 i9 x9' i9' hx hy ht hs=>
   obtain⟨ti,hti,rfl⟩:=hs
   have hrun: ∀(b off:Nat) (k:IntKind) (i:Int),0≤i→i<m9→(Act.mk tmps ds).eval x9 = .pointer (some ⟨b,off,none⟩)→(Act.mk tmps ds).eval i9 = .int k i→∀{q:World→Prop} (w':World),q w'→
    (execOp (Act.mk tmps ds).eval { dst,op:=Op.indexAddr t9 x9 i9,type:=ty,pos,after,guard }).run P w' = .ok (.value (.pointer (some ⟨b,off+i.toNat*ti.size,none⟩))) w':=by
    intro b off k i h1 h2 hv hv2 q w' _
    simp only[execOp,hv,hv2,Instr.indexAt,Sem.run_bind,asIntOf,Sem.run_pure,Result.andThen_ok,run_underlying ht,Instr.sureAddr,Sem.run_ite,h1,h2,and_self,if_true,sizeOf,typeInfo,run_program,hti,x0i]
   simp only[runV] at h
   split at h
   ·rename_i e id st r f k i hex hey
    obtain⟨G1,⟨rfl,b,cap,hres,hv⟩,_⟩:=y0r (ds:=ds) hx hex hh
    obtain⟨G2,hr2,_⟩:=y0r (ds:=ds) hy hey hh
    split at h
    case isFalse=>cases h
    rename_i hb
    simp only[Option.some.injEq,Prod.mk.injEq] at h
    obtain⟨rfl,rfl⟩:=h
    exact⟨_,fz,hrun b _ k i hb.1 hb.2 hv hr2.1,⟨rfl,b,cap,hres,by rw[Nat.add_assoc]⟩,h0⟩
   ·rename_i cs k i hex hey
    obtain⟨G1,⟨rfl,b,off,cur,ty',fr,hv,hN,hb,hle,hrow⟩,_⟩:=y0r (ds:=ds) hx hex hh
    obtain⟨G2,hr2,_⟩:=y0r (ds:=ds) hy hey hh
    split at h
    case isFalse=>cases h
    rename_i hc
    simp only[Option.some.injEq,Prod.mk.injEq] at h
    obtain⟨rfl,rfl⟩:=h
    refine⟨_,fz,hrun b off k i hc.1 hc.2.1 hv hr2.1,⟨rfl,b,_,cur,ty',fr,rfl,hN,hb,by rw[List.length_drop]; omega,?_⟩,h0⟩
    obtain⟨F',hF',h'⟩:=u08 (w:=w) (N:=N) (lc:=lc) (i.toNat*ti.size) hrow
    have:F'=fz:=by funext x; have:=hF' x; simpa [fz] using this
    subst this
    rw[List.length_drop,← List.drop_drop]
    rw[List.drop_take] at h'
    exact h'
   ·cases h
 | @fad t9 fs9 f9 fl n9 x9 x9' hx ht hf hs hn=>
   obtain⟨ti,hti,rfl⟩:=hs
   have hrun: ∀(b off:Nat),(Act.mk tmps ds).eval x9 = .pointer (some ⟨b,off,none⟩)→∀{q:World→Prop} (w':World),q w'→
    (execOp (Act.mk tmps ds).eval { dst,op:=Op.fieldAddr t9 x9 f9,type:=ty,pos,after,guard }).run P w' = .ok (.value (.pointer (some ⟨b,off+fl.offset,none⟩))) w':=by
    intro b off hv q w' _
    simp only[execOp,hv,Instr.fieldAt,Sem.run_bind,run_underlying ht,Result.andThen_ok,hf,Instr.sureAddr,Sem.run_pure,fieldPlace,sizeOf,typeInfo,run_program,hti,if_neg hn,x0i]
   simp only[runV] at h
   split at h
   ·rename_i e id st i f hev
    obtain⟨G0,⟨rfl,b,cap,hres,hv⟩,_⟩:=y0r (ds:=ds) hx hev hh
    simp only[Option.some.injEq,Prod.mk.injEq] at h
    obtain⟨rfl,rfl⟩:=h
    exact⟨_,fz,hrun b _ hv,⟨rfl,b,cap,hres,by rw[Nat.add_assoc]⟩,h0⟩
   ·rename_i cs hev
    obtain⟨G0,⟨rfl,b,off,cur,ty',fr,hv,hN,hb,hle,hrow⟩,_⟩:=y0r (ds:=ds) hx hev hh
    split at h
    case isFalse=>cases h
    rename_i hoff
    simp only[Option.some.injEq,Prod.mk.injEq] at h
    obtain⟨rfl,rfl⟩:=h
    refine⟨_,fz,hrun b off hv,⟨rfl,b,off+fl.offset,cur,ty',fr,rfl,hN,hb,by rw[List.length_drop]; omega,?_⟩,h0⟩
    obtain⟨F',hF',h'⟩:=u08 (w:=w) (N:=N) (lc:=lc) fl.offset hrow
    have:F'=fz:=by funext x; have:=hF' x; simpa [fz] using this
    subst this
    rw[List.length_drop,← List.drop_drop]
    rw[List.drop_take] at h'
    exact h'
   ·cases h
 | @iad t9 el9 e9 x9 i9 x9' i9' hx hy ht hs=>
   obtain⟨ti,hti,rfl⟩:=hs
   have hrun: ∀(b off n c:Nat) (k:IntKind) (i:Int),0≤i→i<n→(Act.mk tmps ds).eval x9 = .slice (some ⟨b,off,none⟩) n c→(Act.mk tmps ds).eval i9 = .int k i→∀{q:World→Prop} (w':World),q w'→
    (execOp (Act.mk tmps ds).eval { dst,op:=Op.indexAddr t9 x9 i9,type:=ty,pos,after,guard }).run P w' = .ok (.value (.pointer (some ⟨b,off+i.toNat*ti.size,none⟩))) w':=by
    intro b off n c k i h1 h2 hv hv2 q w' _
    simp only[execOp,hv,hv2,Instr.indexAt,Sem.run_bind,asIntOf,Sem.run_pure,Result.andThen_ok,run_underlying ht,Sem.run_ite,h1,h2,and_self,if_true,sizeOf,typeInfo,run_program,hti,x0i]
   simp only[runV] at h
   split at h
   ·rename_i t' e' id st lo n k i hex hey
    obtain⟨G1,hr1,_⟩:=y0r (ds:=ds) hx hex hh
    obtain⟨G2,hr2,_⟩:=y0r (ds:=ds) hy hey hh
    split at h
    case isFalse=>cases h
    rename_i hb
    obtain⟨rfl,hb1,hb2⟩:=hb
    simp only[Option.some.injEq,Prod.mk.injEq] at h
    obtain⟨rfl,rfl⟩:=h
    obtain⟨_,⟨_,hn,_⟩ | ⟨b,cap,ad,hres,hv,hle,hmx,had⟩⟩:=hr1
    ·omega
    ·have hlo:lo<cap:=by omega
     have:=had (.inr hlo)
     subst this
     exact⟨_,fz,hrun b _ n _ k i hb1 hb2 hv hr2.1,⟨rfl,b,cap,hres,by rw[Nat.add_mul,Nat.add_zero]⟩,h0⟩
   ·rename_i t' e' xs k i hex hey
    obtain⟨G1,hr1,_⟩:=y0r (ds:=ds) hx hex hh
    obtain⟨G2,hr2,_⟩:=y0r (ds:=ds) hy hey hh
    split at h
    case isFalse=>cases h
    rename_i hb
    obtain⟨rfl,hb1⟩:=hb
    cases hrow:xs[i.toNat]? with
    | none=>rw[hrow] at h; simp at h
    | some row=>
      rw[hrow] at h
      simp only[Option.some.injEq,Prod.mk.injEq] at h
      obtain⟨rfl,rfl⟩:=h
      simp only[repA,repT,repC] at hr1
      obtain⟨_,ad,cap,hv,hl,hc,hx⟩:=hr1
      have hne:xs≠[]:=by rintro rfl; simp at hrow
      obtain⟨b,off,cur,ty',fr,rfl,hN,hbk,hoff,hrows⟩:=hx hne
      have hlt:i.toNat<xs.length:=(List.getElem?_eq_some_iff.1 hrow).1
      obtain⟨F',hF',hre,hrep,hle⟩:=t0a hrows hrow
      have:F'=fz:=by funext x; have:=hF' x; simpa [fz] using this
      subst this
      rw[List.length_take,List.length_drop,Array.length_toList] at hle
      have hmul:(i.toNat+1)*ti.size≤xs.length*ti.size:=Nat.mul_le_mul_right _ hlt
      rw[Nat.add_mul,Nat.one_mul] at hmul
      refine⟨_,fz,hrun b off _ _ k i hb1 (by omega) hv hr2.1,⟨rfl,b,_,cur,ty',fr,rfl,hN,hbk,by omega,?_⟩,h0⟩
      have hlist:(((cur.toList.drop off).take (xs.length*ti.size)).drop (i.toNat*ti.size)).take ti.size=(cur.toList.drop (off+i.toNat*ti.size)).take row.length:=by
       rw[List.drop_take,List.take_take,List.drop_drop,hre]
       congr 1
       omega
      rw[← hlist]
      exact s0n hrep
   ·cases h
 | @sqe t9 x9 y9 yt9 x9' y9' fs9 ks9 ne9 hx hy hu9 hf9 hp9 hq9=>
   simp only[runV] at h
   split at h
   case h_2=>cases h
   rename_i a b hea heb
   obtain⟨G0,⟨va,hva,hra⟩,_⟩:=y0r (ds:=ds) hx hea hh
   obtain⟨G1,⟨vb,hvb,hrb⟩,_⟩:=y0r (ds:=ds) hy heb hh
   obtain⟨r,hr,h⟩:=Option.map_eq_some_iff.1 h
   simp only[Prod.mk.injEq] at h
   obtain⟨rfl,rfl⟩:=h
   have hfo:P.fieldsOf t9=fs9:=by simp only[Program.fieldsOf,hu9]
   have key: ∀w',(Op.equalIn 10000 t9 (.agg va.toArray) (.agg vb.toArray)).run P w' = .ok r w':=fun w'=>by
    rw[run_equalIn_struct w' 9999 t9 _ _ (by rw[hfo]; exact hu9) hp9,hfo]
    exact m07 (w:=w) (N:=N) (lc:=lc) (d:=9998) w' hf9 hr hra hrb (fun j v hj=>by simpa using hj) (fun j v hj=>by simpa using hj)
   refine⟨.bool (if ne9 then !r else r),fz,fun w' hw'=>?_,⟨rfl,rfl⟩,h0⟩
   cases ne9 with
   | false=>simp[execOp,hva,hvb,run_eqGuard_agg w' _ t9 _ _ _ _ hq9,run_eql_struct,key]
   | true=>simp[execOp,hva,hvb,run_eqGuard_agg w' _ t9 _ _ _ _ hq9,run_neq_struct,key]
 | @b2s s9 d9 e9 x9' x9 hx hs9 he9 hd9=>
   simp only[runV] at h
   split at h
   case h_3=>cases h
   case h_2=>
    rename_i own t e xs hev
    obtain⟨G0,hr,_⟩:=y0r (ds:=ds) hx hev hh
    split at h
    case isFalse=>cases h
    rename_i he
    subst he
    split at h
    case h_2=>cases h
    rename_i bs hbs
    simp only[Option.some.injEq,Prod.mk.injEq] at h
    obtain⟨rfl,rfl⟩:=h
    have hfact: ∃a c vals F',(Act.mk tmps ds).eval x9' = .slice a xs.length c∧z09 w N 1 xs vals F'∧(xs≠[]→∃ad,a=some ad∧∀w',Agree w w'→∀j u,vals[j]?=some u→w'.cell? (ad.add j)=some u):=by
     cases own with
     | true=>
       rcases t0o hr with⟨rfl,a0,hv⟩ | ⟨b,cap,cur,F',_,hv,hb,hl,hc,hs,hrows,_⟩
       ·exact⟨a0,0,[],fz,hv,by simp[z09],fun h=>absurd rfl h⟩
       ·refine⟨_,cap,_,F',hv,hrows,fun _=>⟨_,rfl,fun w' hw' j u hj=>?_⟩⟩
        have hbk:w'.heap[b]?=w.heap[b]?:=hw' b (Array.getElem?_eq_some_iff.1 hb).1
        rw[x0i,World.cell?_of_block (w:=w) hbk,y07 hb,Nat.zero_add]
        exact w0c hj
     | false=>
       simp only[repA,repT,repC] at hr
       obtain⟨_,a,cap,hv,hl,hc,hne⟩:=hr
       by_cases hy:xs=[]
       ·subst hy
        exact⟨a,cap,[],fz,hv,by simp[z09],fun h=>absurd rfl h⟩
       ·obtain⟨b,off,cur,ty,fr,ha,hN,hb,hh2,hrows⟩:=hne hy
        subst ha
        refine⟨_,cap,_,fz,hv,hrows,fun _=>⟨_,rfl,fun w' hw' j u hj=>?_⟩⟩
        have hbk:w'.heap[b]?=w.heap[b]?:=hw' b (Array.getElem?_eq_some_iff.1 hb).1
        rw[x0i,World.cell?_of_block (w:=w) hbk,y07 hb]
        rw[List.getElem?_take] at hj
        split at hj
        ·rw[List.getElem?_drop] at hj; simpa using hj
        ·cases hj
    obtain⟨a,c,vals,F',hv,hrows,hcl⟩:=hfact
    obtain⟨ns,hns,rfl⟩:=q0h hbs hrows
    have hnl:ns.length=xs.length:=by
     have:=w0g hrows
     rw[hns,List.length_map] at this
     omega
    refine⟨_,fz,fun w' hw'=>?_,⟨rfl,rfl⟩,h0⟩
    simp only[execOp,hv,Sem.run_bind]
    rw[h0r _ _ _ hs9 he9 hd9 w' a xs.length _ ns hnl (fun hz=>?_)]
    ·rfl
    ·obtain⟨ad,ha,hc⟩:=hcl (by rintro rfl; simp at hz)
     exact⟨ad,ha,fun j u hj=>hc w' (hw'.resolve_left (by simp[regI])) j u (by rw[hns]; exact hj)⟩
   rename_i t e id st lo n hev
   obtain⟨G0,hr,_⟩:=y0r (ds:=ds) hx hev hh
   cases hlo:look σ.ob id with
   | none=>rw[hlo] at h; simp at h
   | some o1=>
     rw[hlo] at h
     simp only at h
     cases hga:getA o1.t o1.e o1.xs st with
     | none=>rw[hga] at h; simp at h
     | some o2=>
       rw[hga] at h
       simp only at h
       split at h
       case isFalse=>cases h
       rename_i hcnd
       obtain⟨h7,he,hln⟩:=hcnd
       split at h
       case h_2=>cases h
       rename_i bs hbs
       simp only[Option.some.injEq,Prod.mk.injEq] at h
       obtain⟨rfl,rfl⟩:=h
       obtain⟨_,⟨rfl,rfl,a0,hv⟩ | ⟨b,cap,ad,hres,hv,hle,hmx,had⟩⟩:=hr
       ·simp only[List.take_zero,s0h,Option.some.injEq] at hbs
        subst hbs
        exact⟨_,fz,fun w' hw'=>by simp only[execOp,hv,Sem.run_bind,h0r _ _ _ hs9 he9 hd9 w' a0 0 0 [] rfl (fun h=>absurd rfl h),Result.andThen_ok,Sem.run_pure]; rfl,⟨rfl,rfl⟩,h0⟩
       ·by_cases hn0:n=0
        ·subst hn0
         simp only[List.take_zero,s0h,Option.some.injEq] at hbs
         subst hbs
         exact⟨_,fz,fun w' hw'=>by simp only[execOp,hv,Sem.run_bind,h0r _ _ _ hs9 he9 hd9 w' (some ad) 0 _ [] rfl (fun h=>absurd rfl h),Result.andThen_ok,Sem.run_pure]; rfl,⟨rfl,rfl⟩,h0⟩
        ·have hlt:lo<cap:=by omega
         have:=had (.inr hlt)
         subst this
         obtain⟨Ft,Fo,hle1,htm,hob⟩:=hh
         obtain⟨F1,F2,_,hO,_⟩:=y0d σ.ob Fo id o1 hlo hob
         obtain⟨l',F3,F4,hl',hO',_,_⟩:=v0u st hO hga
         rcases hO' with⟨_,hnil⟩ | ⟨b',cap',cur,F',hl2,hb,hl,hc,hs',hrows,_⟩
         ·rw[hnil] at hln; simp at hln; omega
         ·have hbb:b=b':=by
           rcases hl' with h | h
           ·rw[hl2] at h; cases h
           ·rw[hres,hl2] at h; injection h with h; injection h
          subst hbb
          obtain⟨F5,_,h5⟩:=u09 lo hrows
          obtain⟨F6,_,h6⟩:=w0i n h5
          have hlen:((o2.xs.drop lo).take n).length=n:=by rw[List.length_take,List.length_drop]; omega
          rw[he] at h6
          obtain⟨ns,hns,rfl⟩:=q0h hbs h6
          have hnl:ns.length=n:=by
           have:=w0g h6
           rw[hns,List.length_map,hlen] at this
           omega
          refine⟨_,fz,fun w' hw'=>?_,⟨rfl,rfl⟩,h0⟩
          have hbk:w'.heap[b]?=w.heap[b]?:=(hw'.resolve_left (by simp[regI])) b (Array.getElem?_eq_some_iff.1 hb).1
          rw[show (execOp (Act.mk tmps ds).eval _).run P w'=_ from rfl]
          simp only[execOp,hv,Sem.run_bind]
          rw[h0r _ _ _ hs9 he9 hd9 w' (some ⟨b,lo*e,none⟩) n _ ns hnl (fun _=>⟨_,rfl,fun j u hj=>?_⟩)]
          ·rfl
          ·rw[x0i,World.cell?_of_block (w:=w) hbk,y07 hb]
           rw[← hns,List.getElem?_take] at hj
           split at hj
           ·rw[List.getElem?_drop] at hj
            rw[h7]
            exact w0c hj
           ·cases hj
 | @ld t9 n9 ag9 p9 p9' hx hs ha h1=>
   simp only[runV] at h
   split at h
   ·rename_i e id st i f hev
    obtain⟨G0,⟨rfl,b,cap,hres,hv⟩,_⟩:=y0r (ds:=ds) hx hev hh
    cases hlo:look σ.ob id with
    | none=>rw[hlo] at h; simp at h
    | some o1=>
      rw[hlo] at h
      simp only at h
      cases hga:getA o1.t o1.e o1.xs st with
      | none=>rw[hga] at h; simp at h
      | some o2=>
        rw[hga] at h
        simp only at h
        split at h
        case isFalse=>cases h
        rename_i he
        cases hrow:o2.xs[i]? with
        | none=>rw[hrow] at h; simp at h
        | some row=>
          rw[hrow] at h
          simp only at h
          split at h
          case isFalse=>cases h
          rename_i hfn
          simp only[Option.some.injEq,Prod.mk.injEq] at h
          obtain⟨rfl,rfl⟩:=h
          obtain⟨Ft,Fo,hle,htm,hob⟩:=hh
          obtain⟨F1,F2,_,hO,_⟩:=y0d σ.ob Fo id o1 hlo hob
          obtain⟨l',F3,F4,hl',hO',_,_⟩:=v0u st hO hga
          rcases hO' with⟨_,hnil⟩ | ⟨b',cap',cur,F',hl2,hb,hl,hc,hs',hr,_⟩
          ·rw[hnil] at hrow; simp at hrow
          ·have hbb:b=b':=by
            rcases hl' with h | h
            ·rw[hl2] at h; cases h
            ·rw[hres,hl2] at h; injection h with h; injection h
           subst hbb
           obtain⟨F5,_,hre,hrep,hlen⟩:=t0a hr hrow
           rw[List.length_take,Array.length_toList] at hlen
           obtain⟨F6,_,hd⟩:=s0o f hrep
           obtain⟨F7,_,htk⟩:=q0x n9 hd
           have hcells: ∀j v,(((((cur.toList.take (o2.xs.length*o2.e)).drop (i*o2.e)).take o2.e).drop f).take n9)[j]?=some v→w.cell? ⟨b,i*e+(f+j),none⟩=some v:=by
            intro j v hj
            rw[List.getElem?_take] at hj
            split at hj
            case isFalse=>cases hj
            rw[List.getElem?_drop,List.getElem?_take] at hj
            split at hj
            case isFalse=>cases hj
            rw[List.getElem?_drop] at hj
            rw[y07 hb,← he,← Nat.add_assoc]
            have:=w0c hj
            rwa [← Nat.add_assoc] at this
           have hview:=q0y (lc:=lc) (e:=e) (id:=id) (st:=st) (i:=i) hres _ _ f _ htk hcells
           have hlen2:(((((cur.toList.take (o2.xs.length*o2.e)).drop (i*o2.e)).take o2.e).drop f).take n9).length=n9:=by
            rw[y01 htk,List.length_take,List.length_drop]; omega
           refine⟨_,fz,?_,l0d (by rw[s0s,List.length_take,List.length_drop]; omega) h1 hview,h0⟩
           intro w' hw'
           have hbk:w'.heap[b]?=w.heap[b]?:=(hw'.resolve_left (by simp[regI])) b (Array.getElem?_eq_some_iff.1 hb).1
           have:=w0s (P:=P) (w:=w') hs ha h1 b (i*e+f) _ hlen2 (fun j v hj=>by rw[Nat.add_assoc,World.cell?_of_block (w:=w) hbk]; exact hcells j v hj)
           simp only[execOp,hv,Instr.loadAt,Instr.sureAddr,Sem.run_bind,Sem.run_pure,Result.andThen_ok,this]
   ·rename_i cs hev
    obtain⟨G0,⟨rfl,b,off,cur,ty',fr,hv,hN,hb,hle,hrow⟩,_⟩:=y0r (ds:=ds) hx hev hh
    split at h
    case isFalse=>cases h
    rename_i hn
    simp only[Option.some.injEq,Prod.mk.injEq] at h
    obtain⟨rfl,rfl⟩:=h
    obtain⟨F7,hF7,htk⟩:=t0q (w:=w) (N:=N) (lc:=lc) n9 hrow
    have:F7=fz:=by funext x; have:=hF7 x; simpa [fz] using this
    subst this
    have hlen2:(((cur.toList.drop off).take cs.length).take n9).length=n9:=by
     rw[t09 htk,List.length_take]; omega
    refine⟨_,fz,?_,l0d (by rw[List.length_take]; omega) h1 htk,h0⟩
    intro w' hw'
    have hbk:w'.heap[b]?=w.heap[b]?:=(hw'.resolve_left (by simp[regI])) b (Array.getElem?_eq_some_iff.1 hb).1
    have:=w0s (P:=P) (w:=w') hs ha h1 b off _ hlen2 (fun j v hj=>by
     rw[World.cell?_of_block (w:=w) hbk,y07 hb]
     rw[List.getElem?_take] at hj
     split at hj
     case isFalse=>cases hj
     rw[List.getElem?_take] at hj
     split at hj
     case isFalse=>cases hj
     rw[List.getElem?_drop] at hj
     simpa using hj)
    simp only[execOp,hv,Instr.loadAt,Instr.sureAddr,Sem.run_bind,Sem.run_pure,Result.andThen_ok,this]
   ·cases h
 | @slcS t9 el9 e9 x9 lo9 hi9 x9' lo9' hi9' hx hlo hhi ht hs=>
   obtain⟨ti,hti,rfl⟩:=hs
   have hbd: ∀(w':World) (x:Value) (k:IntKind) (i:Int) (y:Nat) (code:BoundsCode),x = .int k i→0≤i→i≤y→(Instr.sliceBound x y code).run P w' = .ok i.toNat w':=by
    intro w' x k i y code hx h1 h2
    subst hx
    simp[Instr.sliceBound,asIntOf,h1,h2]
   have hrun: ∀(ad:Option Addr) (n c l h:Nat),l≤h→h≤n→n≤c→(Act.mk tmps ds).eval x9 = .slice ad n c→
    ((lo9=none∧l=0)∨∃o k i,lo9=some o∧(Act.mk tmps ds).eval o = .int k i∧0≤i∧i.toNat=l)→((hi9=none∧h=n)∨∃o k i,hi9=some o∧(Act.mk tmps ds).eval o = .int k i∧0≤i∧i.toNat=h)→∀{q:World→Prop} (w':World),q w'→
    (execOp (Act.mk tmps ds).eval { dst,op:=Op.slice t9 x9 lo9 hi9 none,type:=ty,pos,after,guard }).run P w' = .ok (.value (.slice (if c=l then ad else ad.map (·.add (l*ti.size))) (h - l) (c - l))) w':=by
    intro ad n c l h h1 h2 h3 hv hlo hhi q w' _
    have hB:(Instr.sliceBounds true n c (lo9.map (Act.mk tmps ds).eval) (hi9.map (Act.mk tmps ds).eval) none).run P w' = .ok (l,h,c) w':=by
     rcases hhi with⟨rfl,rfl⟩ | ⟨o,k,i,rfl,he,h4,h5⟩
     ·rcases hlo with⟨rfl,rfl⟩ | ⟨o2,k2,i2,rfl,he2,h42,h52⟩
      ·simp[Instr.sliceBounds]
      ·have:=hbd w' _ k2 i2 h .sliceB he2 h42 (by omega)
       simp[Instr.sliceBounds,this,h52]
     ·have h6:=hbd w' _ k i c .sliceAcap he h4 (by omega)
      rcases hlo with⟨rfl,rfl⟩ | ⟨o2,k2,i2,rfl,he2,h42,h52⟩
      ·simp[Instr.sliceBounds,h6,h5]
      ·have:=hbd w' _ k2 i2 h .sliceB he2 h42 (by omega)
       simp[Instr.sliceBounds,h6,h5,this,h52]
    simp only[execOp,hv,Instr.sliceAt,Sem.run_bind,run_underlying ht,Result.andThen_ok,Instr.slice,Option.map_none,hB,sizeOf,typeInfo,run_program,hti,Sem.run_pure]
   simp only[runV] at h
   split at h
   ·rename_i t e id st lo0 n k l hex hel
    obtain⟨G1,hr1,_⟩:=y0r (ds:=ds) hx hex hh
    split at h
    case h_2=>cases h
    rename_i k' hh9 heh
    split at h
    case isFalse=>cases h
    rename_i hc
    obtain⟨rfl,hc1,hc2,hc3⟩:=hc
    simp only[Option.some.injEq,Prod.mk.injEq] at h
    obtain⟨rfl,rfl⟩:=h
    have hL:(lo9=none∧l.toNat=0)∨∃o k i,lo9=some o∧(Act.mk tmps ds).eval o = .int k i∧0≤i∧i.toNat=l.toNat:=by
     cases lo9' with
     | none=>
       cases lo9 with
       | none=>simp only[Option.some.injEq,A.one.injEq,C.int.injEq] at hel; exact .inl ⟨rfl,by omega⟩
       | some o=>exact hlo.elim
     | some lx=>
       cases lo9 with
       | none=>exact hlo.elim
       | some o=>
         obtain⟨G2,hr2,_⟩:=y0r (ds:=ds) (o:=o) hlo hel hh
         exact .inr ⟨o,k,l,rfl,hr2.1,hc1,rfl⟩
    have hHi:(hi9=none∧hh9.toNat=n)∨∃o k i,hi9=some o∧(Act.mk tmps ds).eval o = .int k i∧0≤i∧i.toNat=hh9.toNat:=by
     cases hi9' with
     | none=>
       cases hi9 with
       | none=>simp only[Option.some.injEq,A.one.injEq,C.int.injEq] at heh; exact .inl ⟨rfl,by omega⟩
       | some o=>exact hhi.elim
     | some lx=>
       cases hi9 with
       | none=>exact hhi.elim
       | some o=>
         obtain⟨G2,hr2,_⟩:=y0r (ds:=ds) (o:=o) hhi heh hh
         exact .inr ⟨o,k',hh9,rfl,hr2.1,by omega,rfl⟩
    obtain⟨_,⟨rfl,rfl,a0,hv⟩ | ⟨b,cap,ad,hres,hv,hle,hmx,had⟩⟩:=hr1
    ·refine⟨_,fz,hrun a0 0 0 l.toNat hh9.toNat (by omega) (by omega) (by omega) hv hL hHi,⟨rfl,.inl ⟨by omega,by omega,a0,?_⟩⟩,h0⟩
     have h1:l.toNat=0:=by omega
     have h2:hh9.toNat=0:=by omega
     simp[h1,h2]
    ·refine⟨_,fz,hrun (some ad) n (cap - lo0) l.toNat hh9.toNat (by omega) (by omega) (by omega) hv hL hHi,⟨rfl,.inr ⟨b,cap,if cap - lo0=l.toNat then ad else ad.add (l.toNat*ti.size),hres,?_,by omega,hmx,fun hor=>?_⟩⟩,h0⟩
     ·have e1:hh9.toNat - l.toNat=(hh9 - l).toNat:=by omega
      have e2:cap - lo0 - l.toNat=cap - (lo0+l.toNat):=by omega
      rw[e1,e2]
      split <;> simp
     ·by_cases hcl:cap - lo0=l.toNat
      ·have:lo0=0:=by omega
       have h2:l.toNat=0:=by omega
       rw[if_pos hcl,had (.inl this),this,h2]
      ·have:lo0<cap:=by omega
       rw[if_neg hcl,had (.inr this),x0i,Nat.add_mul]
   ·rename_i t e xs k l hex hel
    obtain⟨G1,hr1,_⟩:=y0r (ds:=ds) hx hex hh
    split at h
    case h_2=>cases h
    rename_i k' hh9 heh
    split at h
    case isFalse=>cases h
    rename_i hc
    obtain⟨rfl,hc1,hc2,hc3⟩:=hc
    simp only[Option.some.injEq,Prod.mk.injEq] at h
    obtain⟨rfl,rfl⟩:=h
    have hL:(lo9=none∧l.toNat=0)∨∃o k i,lo9=some o∧(Act.mk tmps ds).eval o = .int k i∧0≤i∧i.toNat=l.toNat:=by
     cases lo9' with
     | none=>
       cases lo9 with
       | none=>simp only[Option.some.injEq,A.one.injEq,C.int.injEq] at hel; exact .inl ⟨rfl,by omega⟩
       | some o=>exact hlo.elim
     | some lx=>
       cases lo9 with
       | none=>exact hlo.elim
       | some o=>
         obtain⟨G2,hr2,_⟩:=y0r (ds:=ds) (o:=o) hlo hel hh
         exact .inr ⟨o,k,l,rfl,hr2.1,hc1,rfl⟩
    have hHi:(hi9=none∧hh9.toNat=xs.length)∨∃o k i,hi9=some o∧(Act.mk tmps ds).eval o = .int k i∧0≤i∧i.toNat=hh9.toNat:=by
     cases hi9' with
     | none=>
       cases hi9 with
       | none=>simp only[Option.some.injEq,A.one.injEq,C.int.injEq] at heh; exact .inl ⟨rfl,by omega⟩
       | some o=>exact hhi.elim
     | some lx=>
       cases hi9 with
       | none=>exact hhi.elim
       | some o=>
         obtain⟨G2,hr2,_⟩:=y0r (ds:=ds) (o:=o) hhi heh hh
         exact .inr ⟨o,k',hh9,rfl,hr2.1,by omega,rfl⟩
    simp only[repA,repT,repC] at hr1
    obtain⟨_,ad,cap,hv,hl,hc,hxs⟩:=hr1
    have hlen:((xs.take hh9.toNat).drop l.toNat).length=hh9.toNat - l.toNat:=by rw[List.length_drop,List.length_take]; omega
    refine⟨_,fz,hrun ad xs.length cap l.toNat hh9.toNat (by omega) (by omega) hl hv hL hHi,?_,h0⟩
    simp only[repA,repT,repC]
    refine⟨trivial,_,cap - l.toNat,by rw[hlen],by omega,by omega,fun hne=>?_⟩
    have hpos:0<hh9.toNat - l.toNat:=by rw[← hlen]; exact List.length_pos_iff.2 hne
    have hne':xs≠[]:=by rintro rfl; simp at hne
    obtain⟨b,off,cur,ty',fr,rfl,hN,hbk,hoff,hrows⟩:=hxs hne'
    have hmul:hh9.toNat*ti.size≤xs.length*ti.size:=Nat.mul_le_mul_right _ (by omega)
    have hmul2:hh9.toNat*ti.size=l.toNat*ti.size+(hh9.toNat - l.toNat)*ti.size:=by rw[← Nat.add_mul]; congr 1; omega
    refine⟨b,off+l.toNat*ti.size,cur,ty',fr,?_,hN,hbk,by rw[hlen]; omega,?_⟩
    ·rw[if_neg (by omega)]; simp[x0i]
    ·obtain⟨F1,hF1,h1⟩:=w0i hh9.toNat hrows
     obtain⟨F2,hF2,h2⟩:=u09 l.toNat h1
     have:F2=fz:=by funext x; have:=hF1 x; have:=hF2 x; simp[fz] at *; omega
     subst this
     have hlist:(((cur.toList.drop off).take (xs.length*ti.size)).take (hh9.toNat*ti.size)).drop (l.toNat*ti.size)=(cur.toList.drop (off+l.toNat*ti.size)).take (((xs.take hh9.toNat).drop l.toNat).length*ti.size):=by
      rw[hlen,List.take_take,List.drop_take,List.drop_drop]
      congr 1
      omega
     rw[← hlist]
     exact h2
   ·cases h
 | @slcT t9 x9 lo9 hi9 x9' lo9' hi9' hx hlo hhi ht=>
   have hbd: ∀(w':World) (x:Value) (k:IntKind) (i:Int) (y:Nat) (code:BoundsCode),x = .int k i→0≤i→i≤y→(Instr.sliceBound x y code).run P w' = .ok i.toNat w':=by
    intro w' x k i y code hx h1 h2
    subst hx
    simp[Instr.sliceBound,asIntOf,h1,h2]
   simp only[runV] at h
   split at h
   case h_2=>cases h
   rename_i s k l hex hel
   obtain⟨G1,hr1,_⟩:=y0r (ds:=ds) hx hex hh
   have hv:=hr1.1
   split at h
   case h_2=>cases h
   rename_i k' hh9 heh
   split at h
   case isFalse=>cases h
   rename_i hc
   obtain⟨hc1,hc2,hc3⟩:=hc
   simp only[Option.some.injEq,Prod.mk.injEq] at h
   obtain⟨rfl,rfl⟩:=h
   have hL:(lo9=none∧l.toNat=0)∨∃o k i,lo9=some o∧(Act.mk tmps ds).eval o = .int k i∧0≤i∧i.toNat=l.toNat:=by
    cases lo9' with
    | none=>
      cases lo9 with
      | none=>simp only[Option.some.injEq,A.one.injEq,C.int.injEq] at hel; exact .inl ⟨rfl,by omega⟩
      | some o=>exact hlo.elim
    | some lx=>
      cases lo9 with
      | none=>exact hlo.elim
      | some o=>
        obtain⟨G2,hr2,_⟩:=y0r (ds:=ds) (o:=o) hlo hel hh
        exact .inr ⟨o,k,l,rfl,hr2.1,hc1,rfl⟩
   have hHi:(hi9=none∧hh9.toNat=s.size)∨∃o k i,hi9=some o∧(Act.mk tmps ds).eval o = .int k i∧0≤i∧i.toNat=hh9.toNat:=by
    cases hi9' with
    | none=>
      cases hi9 with
      | none=>simp only[Option.some.injEq,A.one.injEq,C.int.injEq] at heh; exact .inl ⟨rfl,by omega⟩
      | some o=>exact hhi.elim
    | some lx=>
      cases hi9 with
      | none=>exact hhi.elim
      | some o=>
        obtain⟨G2,hr2,_⟩:=y0r (ds:=ds) (o:=o) hhi heh hh
        exact .inr ⟨o,k',hh9,rfl,hr2.1,by omega,rfl⟩
   have hB: ∀w':World,(Instr.sliceBounds false s.size s.size (lo9.map (Act.mk tmps ds).eval) (hi9.map (Act.mk tmps ds).eval) none).run P w' = .ok (l.toNat,hh9.toNat,s.size) w':=by
    intro w'
    rcases hHi with⟨rfl,h5⟩ | ⟨o,k,i,rfl,he,h4,h5⟩
    ·rw[h5]
     rcases hL with⟨rfl,h6⟩ | ⟨o2,k2,i2,rfl,he2,h42,h52⟩
     ·simp[Instr.sliceBounds,h6]
     ·have:=hbd w' _ k2 i2 s.size .sliceB he2 h42 (by omega)
      simp[Instr.sliceBounds,this,h52]
    ·have h6:=hbd w' _ k i s.size .sliceAlen he h4 (by omega)
     rcases hL with⟨rfl,h7⟩ | ⟨o2,k2,i2,rfl,he2,h42,h52⟩
     ·simp[Instr.sliceBounds,h6,h5,h7]
     ·have:=hbd w' _ k2 i2 hh9.toNat .sliceB he2 h42 (by omega)
      simp[Instr.sliceBounds,h6,h5,this,h52]
   refine⟨_,fz,fun w' _=>?_,⟨rfl,rfl⟩,h0⟩
   have hB:=hB w'
   simp only[execOp,hv,Instr.sliceAt,Sem.run_bind,run_underlying ht,Result.andThen_ok,Instr.slice,Option.map_none,hB,Sem.run_pure,Option.isSome_none,Bool.false_eq_true,if_false]
theorem t1s {o:Oper} {i:I} {a:A} (hi:IsV P o.op i) (h:runV i σ=some (a,σ1)) (hh:Hold w N lc σ tmps F G) :
 ∃v G1,(execOp (Act.mk tmps ds).eval o).run P w = .ok (.value v) w∧repA w N lc a v G1∧Hold w N lc σ1 tmps F (add G G1):=
 let ⟨v,G1,h1,h2⟩:=o02 (ds:=ds) hi h hh
 ⟨v,G1,h1 w (.inr (Agree.refl w)),h2⟩
end
end Go.Am
namespace Go.Am
def C.scal:C→Bool
 | .int .. | .bool _ | .str _=>true
 | _=>false
def C.plain:C→Bool
 | .int .. | .bool _ | .str _ | .ar .. | .np | .op .. =>true
 | .fn _ cap=>cap.isEmpty
 | _=>false
def c0e (d:Nat) (a:A) (σ:St):St:=
 match a with
 | .one (.ar true t e xs)=>if t<1000000000 then { tm:=put (w0u (fun id _=>id == d) σ.tm) d (.one (.vw t e d [] 0 xs.length)),ob:=put σ.ob d ⟨t,e,xs⟩ } else { σ with tm:=put σ.tm d (.one (.ar true t e xs)) }
 | .one (.op t e cs)=>{ tm:=put (w0u (fun id _=>id == d) σ.tm) d (.one (.pt e d [] 0 0)),ob:=put σ.ob d ⟨t+1000000000,e,[cs]⟩ }
 | a=>{ σ with tm:=put σ.tm d a }
def m0d (σ:St):A→Option (A×St)
 | .one (.vw t e id [] 0 n)=>
   if id<1000 then
    match look σ.ob id with
    | some o=>if o.t=t∧o.e=e∧n≤o.xs.length∧t<1000000000 then some (.one (.ar true t e (o.xs.take n)),{ tm:=w0u (fun id2 st=>id2 == id && !st.isEmpty) σ.tm,ob:=del σ.ob id }) else none
    | none=>none
   else some (.one (.vw t e id [] 0 n),σ)
 | a=>some (a,σ)
def m0u (xs:List (List C)):Path→List (List C)
 | []=>xs
 | [(_,i,f)]=>match xs[i]? with
   | some row=>xs.set i (row.set f .dead)
   | none=>xs
 | (_,i,f) :: r=>match xs[i]? with
   | some row=>match row[f]? with
     | some c=>match h0b c with
       | some o=>xs.set i (row.set f (f0v c (m0u o.xs r)))
       | none=>xs
     | none=>xs
   | none=>xs
def p0f (σ:St):A→Option (A×St)
 | .one (.vw t e id (s :: st) 0 n)=>
   match look σ.ob id with
   | some o=>match getA o.t o.e o.xs (s :: st) with
     | some o'=>if o'.t=t∧o'.e=e∧n≤o'.xs.length∧t<1000000000 then some (.one (.ar true t e (o'.xs.take n)),{ tm:=σ.tm,ob:=put σ.ob id ⟨o.t,o.e,m0u o.xs (s :: st)⟩ }) else none
     | none=>none
   | none=>none
 | .one (.pt e id [] 0 0)=>
   match look σ.ob id with
   | some o=>match o.xs with
     | [row]=>if o.e=e∧id<1000∧1000000000≤o.t then some (.one (.op (o.t - 1000000000) o.e row),{ tm:=σ.tm,ob:=del σ.ob id }) else m0d σ (.one (.pt e id [] 0 0))
     | _=>m0d σ (.one (.pt e id [] 0 0))
   | none=>m0d σ (.one (.pt e id [] 0 0))
 | a=>m0d σ a
section
variable {w w':World} {N N':Nat→Prop} {lc lc':Loc} {tmps:Array Value} {ds:List Deferred} {F G:Fp} {σ σ1:St}
theorem y1x (hk: ∀b,b<w.heap.size→w'.heap[b]?=w.heap[b]?) (hB:Base w N F) {tm:List (Nat×A)} {Ft:Fp} (hle: ∀b,Ft b≤F b) (h:x0u w N lc tmps tm Ft) :
 x0u w' N lc tmps tm Ft:=
 u0y tmps tm Ft (fun b hb=>hk b (hb.elim (fun h=>hB.lt b (Nat.le_trans h (hle b))) fun h=>(hB.nb b h).2)) (fun _ h=>h) (fun _ st x h=>o00 hk st _ x h) h
theorem u04 (hk: ∀b,b<w.heap.size→w'.heap[b]?=w.heap[b]?) (hB:Base w N F) (h:Hold w N lc σ tmps F G):Hold w' N lc σ tmps F G:=by
 obtain⟨Ft,Fo,hle,ht,ho⟩:=h
 exact⟨Ft,Fo,hle,y1x hk hB (fun b=>by have:=hle b; omega) ht,
  y0q σ.ob Fo (fun b hb=>hk b (hb.elim (fun h=>hB.lt b (by have:=hle b; omega)) fun h=>(hB.nb b h).2)) (fun _ h=>h) (fun _ _ _=>rfl) ho⟩
def own (F:Fp) (b:Nat):Fp:=fun x=>if x=b then 1 else F x
theorem s02 (w:World) (o:Go.Obj):(w.alloc o).heap.size=w.heap.size+1:=by
 show (w.heap.push o).size=_
 simp
theorem s01 (w:World) (o:Go.Obj) (b:Nat) (h:b<w.heap.size):(w.alloc o).heap[b]?=w.heap[b]?:=by
 show (w.heap.push o)[b]?=w.heap[b]?
 rw[Array.getElem?_push,if_neg (Nat.ne_of_lt h)]
theorem s0y (w:World) (o:Go.Obj):(w.alloc o).heap[w.heap.size]?=some o:=by
 show (w.heap.push o)[w.heap.size]?=some o
 simp
theorem z1j (hB:Base w N F) (o:Go.Obj):Base (w.alloc o) N (own F w.heap.size):=by
 have hsz:(w.alloc o).heap.size=w.heap.size+1:=s02 w o
 refine⟨fun b=>?_,fun b hb=>?_,fun b hb=>?_⟩
 ·unfold own; split
  ·exact Nat.le_refl _
  ·exact hB.one b
 ·unfold own at hb
  rw[hsz]
  split at hb
  ·omega
  ·have:=hB.lt b hb; omega
 ·have:=hB.nb b hb
  unfold own
  rw[hsz,if_neg (by omega)]
  exact⟨this.1,by omega⟩
theorem s1x (hB:Base w N F) (o:Go.Obj) (lc':Loc) (hl: ∀id,1000≤id→lc' id=lc id):Fr w F N lc (w.alloc o) (own F w.heap.size) N lc' where
 os:=rfl
 tape:=rfl
 output:=rfl
 size:=by rw[s02]; omega
 keep:=fun b hb _=>s01 w o b hb
 fp:=fun b hb=>by
  unfold own at hb
  split at hb
  ·right; omega
  ·exact .inl hb
 nn:=fun _ h=>h
 nr:=fun _ h=> .inl h
 lcs:=hl
theorem x1i (hB:Base w N F):F w.heap.size=0:=by
 rcases Nat.eq_zero_or_pos (F w.heap.size) with h | h
 ·exact h
 ·exact absurd (hB.lt _ h) (Nat.lt_irrefl _)
theorem i05 {n:Nat} (h0:F n=0) (h:Hold w N lc σ tmps F G):Hold w N lc σ tmps (own F n) (add (Am.one n) G):=by
 obtain⟨Ft,Fo,hle,ht,ho⟩:=h
 refine⟨Ft,Fo,fun b=>?_,ht,ho⟩
 have:=hle b
 simp only[add,Am.one,own]
 split
 ·rename_i hb; subst hb; omega
 ·omega
theorem x1j {d:Nat} {l:Option (Nat×Nat)} (h:Hold w N lc σ tmps F G) :
 Hold w N (fun i=>if i=d then l else lc i) { tm:=w0u (fun id _=>id == d) σ.tm,ob:=del σ.ob d } tmps F G:=by
 obtain⟨Ft,Fo,hle,ht,ho⟩:=h
 obtain⟨Ft',h1,ht'⟩:=w0r (w':=w) (N':=N) (lc':=fun i=>if i=d then l else lc i) (p:=fun id _=>id == d) tmps σ.tm Ft (fun _ _=>rfl) (fun _ h=>h)
  (fun id st hp x hx=>by
    have:id≠d:=by simpa using hp
    simp only[if_neg this]; exact hx) ht
 obtain⟨Fo',h2,ho'⟩:=p0w d σ.ob Fo ho
 exact⟨Ft',Fo',fun b=>by have:=hle b; have:=h1 b; have:=h2 b; omega,ht',j0r _ Fo' (h07 d σ.ob) ho'⟩
theorem n0i {d:Nat} {l:Option (Nat×Nat)} {t e:Nat} {xs:List (List C)} {G1:Fp} (hO:repO w N l t e xs G1) (h:Hold w N lc σ tmps F (add G G1)) :
 Hold w N (fun i=>if i=d then l else lc i) { tm:=w0u (fun id _=>id == d) σ.tm,ob:=put σ.ob d ⟨t,e,xs⟩ } tmps F G:=by
 obtain⟨Ft,Fo,hle,ht,ho⟩:=x1j (d:=d) (l:=l) h
 refine⟨Ft,add G1 Fo,fun b=>by have:=hle b; simp only[add] at this ⊢; omega,ht,?_⟩
 simp only[put,y03]
 exact⟨G1,Fo,rfl,by simpa using hO,ho⟩
theorem z29 {t e:Nat} {xs:List (List C)} {g:Value} {G1:Fp} (ht9:t<1000000000) (h:repC w N (.ar true t e xs) g G1) :
 ∃l,repO w N l t e xs G1∧((l=none∧xs.length=0∧∃a,g = .slice a 0 0)∨∃b cap,l=some (b,cap)∧g = .slice (some ⟨b,0,none⟩) xs.length cap∧xs.length≤cap∧cap≤maxLen):=by
 simp only[repC] at h
 rcases h with⟨rfl,a0,rfl⟩ | ⟨b,cap,cur,F',rfl,hb,hl,hc,hs,hr,rfl⟩
 ·exact⟨none,.inl ⟨rfl,rfl⟩,.inl ⟨rfl,rfl,a0,rfl⟩⟩
 ·exact⟨some (b,cap),.inr ⟨b,cap,cur,F',rfl,by rw[p04 ht9]; exact hb,hl,i0i ht9 hc,hs,hr,rfl⟩,.inr ⟨b,cap,rfl,rfl,hl,hc⟩⟩
theorem p15 {t e:Nat} {cs:List C} {g:Value} {G1:Fp} (h:repC w N (.op t e cs) g G1): ∃b,g = .pointer (some ⟨b,0,none⟩)∧repO w N (some (b,1)) (t+1000000000) e [cs] G1:=by
 simp only[repC] at h
 obtain⟨b2,cur2,G',rfl,hb2,hl2,hs2,hr2,rfl⟩:=h
 refine⟨b2,rfl,.inr ⟨b2,1,cur2,G',rfl,by rw[g01]; exact hb2,by simp,⟨by simp[maxLen],fun _=>rfl⟩,by simpa using hs2,?_,rfl⟩⟩
 simp only[List.length_singleton,Nat.one_mul,z09]
 exact⟨cur2.toList.take e,[],G',fz,by simp,hl2,(z0g _).symm,hr2,rfl,rfl⟩
theorem h16 {t e b cap:Nat} {cs:List C} {F:Fp} (ht:1000000000≤t) (h:repO w N (some (b,cap)) t e [cs] F):repC w N (.op (t - 1000000000) e cs) (.pointer (some ⟨b,0,none⟩)) F:=by
 rcases h with⟨h,_⟩ | ⟨b3,cap3,cur3,G3,h,hb3,hl3,hc3,hs3,hr3,rfl⟩
 ·cases h
 ·injection h with h; injection h with h1 h2; subst h1; subst h2
  have h1:=hc3.2 ht
  subst h1
  have e1:tyOf t=t - 1000000000:=by unfold tyOf; rw[if_neg (by omega)]
  rw[e1] at hb3
  simp only[Nat.one_mul] at hs3
  simp only[List.length_singleton,Nat.one_mul,z09] at hr3
  obtain⟨v1,v2,F1,F2,hv,hl,rfl,hr,rfl,rfl⟩:=hr3
  rw[List.append_nil] at hv
  simp only[repC]
  exact⟨b,cur3,F1,rfl,hb3,hl,hs3,by rw[hv]; exact hr,by rw[z0g]⟩
theorem h0a {d:Nat} {a:A} {v:Value} {G1:Fp} (hd:d<tmps.size) (hd2:d<1000) (ha:repA w N lc a v G1) (h:Hold w N lc σ tmps F (add G G1)) :
 ∃lc',(∀id,1000≤id→lc' id=lc id)∧Hold w N lc' (c0e d a σ) (tmps.setIfInBounds d v) F G:=by
 unfold c0e
 split
 ·rename_i t e xs
  by_cases ht9:t<1000000000
  case neg=>
   rw[if_neg ht9]
   exact⟨lc,fun _ _=>rfl,y0j (ds:=[]) (d:=some d) h ha (fun k hk=>by injection hk with hk; omega)⟩
  rw[if_pos ht9]
  obtain⟨l,hO,hg⟩:=z29 (w:=w) (N:=N) ht9 ha
  refine⟨fun i=>if i=d then l else lc i,fun id hid=>by simp only; rw[if_neg (by omega)],?_⟩
  have h1:=n0i (d:=d) hO h
  have hv:repA w N (fun i=>if i=d then l else lc i) (.one (.vw t e d [] 0 xs.length)) v fz:=by
   simp only[repA,repT,resF,if_true]
   refine⟨trivial,?_⟩
   rcases hg with⟨_,hn,a0,rfl⟩ | ⟨b,cap,rfl,rfl,hle,hmx⟩
   ·exact .inl ⟨by trivial,hn,a0,rfl⟩
   ·exact .inr ⟨b,cap,_,rfl,rfl,by omega,hmx,fun _=>by simp⟩
  have:=y0j (ds:=[]) (d:=some d) (a:= .one (.vw t e d [] 0 xs.length)) (v:=v) (G1:=fz) (by rw[z0g]; exact h1) hv (fun k hk=>by injection hk with hk; omega)
  exact this
 ·rename_i t e cs
  obtain⟨b,rfl,hO⟩:=p15 (w:=w) (N:=N) ha
  refine⟨fun i=>if i=d then some (b,1) else lc i,fun id hid=>by simp only; rw[if_neg (by omega)],?_⟩
  have h1:=n0i (d:=d) hO h
  have hv:repA w N (fun i=>if i=d then some (b,1) else lc i) (.one (.pt e d [] 0 0)) (.pointer (some ⟨b,0,none⟩)) fz:=by
   simp only[repA,repT,resF,if_true]
   exact⟨trivial,b,1,rfl,by simp⟩
  exact y0j (ds:=[]) (d:=some d) (a:= .one (.pt e d [] 0 0)) (v:= .pointer (some ⟨b,0,none⟩)) (G1:=fz) (by rw[z0g]; exact h1) hv (fun k hk=>by injection hk with hk; omega)
 ·exact⟨lc,fun _ _=>rfl,y0j (ds:=[]) (d:=some d) h ha (fun k hk=>by injection hk with hk; omega)⟩
theorem r0p {a a':A} {v:Value} (h:m0d σ a=some (a',σ1)) (haff:a.aff=false) (ha:repA w N lc a v fz) (hh:Hold w N lc σ tmps F G) :
 ∃G1,repA w N lc a' v G1∧Hold w N lc σ1 tmps F (add G G1):=by
 have h0:Hold w N lc σ tmps F (add G fz):=by rw[z0g]; exact hh
 unfold m0d at h
 split at h
 ·rename_i t e id n
  split at h
  ·cases hl:look σ.ob id with
   | none=>rw[hl] at h; simp at h
   | some o=>
     rw[hl] at h
     simp only at h
     split at h
     case isFalse=>cases h
     rename_i hc
     obtain⟨rfl,rfl,hn,ht9⟩:=hc
     simp only[Option.some.injEq,Prod.mk.injEq] at h
     obtain⟨rfl,rfl⟩:=h
     obtain⟨Ft,Fo,hle,ht,ho⟩:=hh
     obtain⟨F1,F2,hle',hO,ho'⟩:=y0d σ.ob Fo id o hl ho
     obtain⟨Ft',hFt',ht⟩:=w0r (w':=w) (N':=N) (lc':=lc) (p:=fun id2 st=>id2 == id && !st.isEmpty) tmps σ.tm Ft (fun _ _=>rfl) (fun _ h=>h) (fun _ _ _ _ h=>h) ht
     simp only[repA,repT,resF] at ha
     obtain⟨_,⟨_,rfl,a0,rfl⟩ | ⟨b,cap,ad,hres,rfl,hcap,hmx,had⟩⟩:=ha
     ·refine⟨fz,?_,Ft',F2,fun b=>by have:=hle b; have:=hle' b; have:=hFt' b; simp only[add,fz]; omega,ht,ho'⟩
      simp[repA,repT,repC]
     ·rcases hO with⟨hn',_⟩ | ⟨b2,cap2,cur,F',hl2,hb,hlen,hc,hs,hr,rfl⟩
      ·rw[hn'] at hres; cases hres
      ·rw[hres] at hl2
       injection hl2 with hl2
       injection hl2 with hl2 hl3
       subst hl2; subst hl3
       have:=had (.inl trivial)
       subst this
       obtain⟨F3,hF3,h3⟩:=w0i n hr
       refine⟨add (Am.one b) F3,?_,Ft',F2,fun x=>by have:=hle x; have:=hle' x; have:=hF3 x; have:=hFt' x; simp only[add] at *; omega,ht,ho'⟩
       simp only[repA,repT,repC]
       have hlen2:(o.xs.take n).length=n:=by rw[List.length_take]; omega
       refine .inr ⟨b,cap,cur,F3,by rw[hlen2]; simp,by rw[p04 ht9] at hb; exact hb,by omega,hc.1,hs,?_,rfl⟩
       rw[hlen2]
       rw[List.take_take] at h3
       have:min (n*o.e) (o.xs.length*o.e)=n*o.e:=Nat.min_eq_left (Nat.mul_le_mul_right _ hn)
       rw[this] at h3
       exact h3
  ·simp only[Option.some.injEq,Prod.mk.injEq] at h
   obtain⟨rfl,rfl⟩:=h
   exact⟨fz,ha,h0⟩
 ·simp only[Option.some.injEq,Prod.mk.injEq] at h
  obtain⟨rfl,rfl⟩:=h
  exact⟨fz,ha,h0⟩
theorem h15 {t e:Nat} {xs:List (List C)} {g:Value} {G1:Fp} (h:repC w N (.ar true t e xs) g G1):g.oneCell'=true:=by
 simp only[repC] at h
 rcases h with⟨_,a0,rfl⟩ | ⟨b,cap,cur,F',rfl,_⟩ <;> rfl
theorem e07: ∀(s:Nat×Nat×Nat) (st:Path) {l:Option (Nat×Nat)} {t e:Nat} {xs:List (List C)} {F:Fp} {o:Go.Am.Obj},repO w N l t e xs F→getA t e xs (s :: st)=some o→
 ∃F0 F1,repO w N (resF w l (s :: st)) o.t o.e o.xs F0∧F=add F0 F1∧repO w N l t e (m0u xs (s :: st)) F1
 | (e',i,f),r,l,t,e,xs,F,o,h,hg=>by
   simp only[getA] at hg
   split at hg
   case isFalse=>cases hg
   rename_i he
   subst he
   cases hrow:xs[i]? with
   | none=>rw[hrow] at hg; simp at hg
   | some row=>
     rw[hrow] at hg
     simp only at hg
     cases hcell:row[f]? with
     | none=>rw[hcell] at hg; simp at hg
     | some c=>
       rw[hcell] at hg
       simp only at hg
       cases hn:h0b c with
       | none=>rw[hn] at hg; simp at hg
       | some o2=>
         rw[hn] at hg
         simp only at hg
         rcases h with⟨_,rfl,_⟩ | ⟨b,cap,cur,F',rfl,hb,hl,hc,hs,hr,rfl⟩
         ·simp at hrow
         ·obtain⟨v,G1,G2,hv,rfl,hrep,hfe,hset⟩:=r0d hr hrow hcell
          have hcv:cur[i*e'+f]?=some v:=w0c hv
          have hcell':w.cell? ⟨b,i*e'+f,none⟩=some v:=by rw[y07 hb]; exact hcv
          obtain⟨hone,l2,hO,hres,hback⟩:=u1g (cap:=cap) hn hrep hcell'
          have hvs:(cur.toList.take (xs.length*e')).set (i*e'+f) v=cur.toList.take (xs.length*e'):=by
           apply List.ext_getElem?
           intro k
           rw[List.getElem?_set]
           split
           ·rename_i hk'
            subst hk'
            split
            ·exact hv.symm
            ·rename_i hn
             rw[List.getElem?_eq_none (by omega)]
           ·rfl
          have hput: ∀(c':C) (G:Fp),repC w N c' v G→repO w N (some (b,cap)) t e' (xs.set i (row.set f c')) (add (Am.one b) (add G G2)):=by
           intro c' G hc'
           have h4:=hset w N c' v G (fun _ _=>rfl) (fun _ h=>h) hc'
           rw[hvs] at h4
           refine .inr ⟨b,cap,cur,add G G2,rfl,hb,by simpa using hl,hc,hs,?_,rfl⟩
           rw[List.length_set]; exact h4
          cases r with
          | nil=>
            simp only[getA,Option.some.injEq] at hg
            subst hg
            refine⟨G1,add (Am.one b) G2,by rw[hres]; simpa [resF] using hO,by funext x; simp only[add]; omega,?_⟩
            have:=hput .dead fz (by simp only[repC]; exact⟨trivial,hone⟩)
            rw[v0c] at this
            simpa only[m0u,hrow] using this
          | cons s' r'=>
            obtain⟨F0,F1,hO1,rfl,hO2⟩:=e07 s' r' hO hg
            refine⟨F0,add (Am.one b) (add F1 G2),by rw[hres]; exact hO1,by funext x; simp only[add]; omega,?_⟩
            have hlen:(m0u o2.xs (s' :: r')).length=o2.xs.length:=by
             obtain⟨e3,i3,f3⟩:=s'
             cases r' with
             | nil=>simp only[m0u]; split <;> simp
             | cons=>
               simp only[m0u]
               split
               ·split
                ·split <;> simp
                ·rfl
               ·rfl
            have:=hput _ F1 (hback w N _ F1 hlen hO2)
            simpa only[m0u,hrow,hcell,hn] using this
theorem n0m {a a':A} {v:Value} (h:p0f σ a=some (a',σ1)) (haff:a.aff=false) (ha:repA w N lc a v fz) (hh:Hold w N lc σ tmps F G) :
 ∃G1,repA w N lc a' v G1∧Hold w N lc σ1 tmps F (add G G1):=by
 unfold p0f at h
 split at h
 case h_3=>exact r0p h haff ha hh
 case h_2=>
  rename_i e id
  cases hl:look σ.ob id with
  | none=>rw[hl] at h; exact r0p h haff ha hh
  | some o=>
    rw[hl] at h
    simp only at h
    split at h
    case h_2=>exact r0p h haff ha hh
    rename_i row hxs
    split at h
    case isFalse=>exact r0p h haff ha hh
    rename_i hc
    simp only[Option.some.injEq,Prod.mk.injEq] at h
    obtain⟨rfl,rfl⟩:=h
    obtain⟨Ft,Fo,hle,ht,ho⟩:=hh
    obtain⟨F1,F2,hle',hO,ho'⟩:=y0d σ.ob Fo id o hl ho
    simp only[repA,repT,resF] at ha
    obtain⟨_,b,cap,hres,rfl⟩:=ha
    rw[hxs,hres] at hO
    refine⟨F1,?_,Ft,F2,fun x=>by have:=hle x; have:=hle' x; simp only[add] at *; omega,ht,ho'⟩
    simp only[repA,repT]
    simpa using h16 hc.2.2 hO
 rename_i t e id s st n
 cases hl:look σ.ob id with
 | none=>rw[hl] at h; simp at h
 | some o=>
   rw[hl] at h
   simp only at h
   cases hg:getA o.t o.e o.xs (s :: st) with
   | none=>rw[hg] at h; simp at h
   | some o'=>
     rw[hg] at h
     simp only at h
     split at h
     case isFalse=>cases h
     rename_i hc
     obtain⟨rfl,rfl,hn,ht9⟩:=hc
     simp only[Option.some.injEq,Prod.mk.injEq] at h
     obtain⟨rfl,rfl⟩:=h
     obtain⟨Ft,Fo,hle,ht,ho⟩:=hh
     obtain⟨F1,F2,hle',hO,ho'⟩:=y0d σ.ob Fo id o hl ho
     obtain⟨Fa,Fb,hOa,rfl,hOb⟩:=e07 s st hO hg
     obtain⟨Fo2,hle2,ho2⟩:=p0x (d:=id) (o:=⟨o.t,o.e,m0u o.xs (s :: st)⟩) hOb ho'
     have ho3:y03 w N lc (put σ.ob id ⟨o.t,o.e,m0u o.xs (s :: st)⟩) Fo2:=by
      simpa only[put,i0l] using ho2
     simp only[repA,repT] at ha
     obtain⟨_,⟨_,rfl,a0,rfl⟩ | ⟨b,cap,ad,hres,rfl,hcap,hmx,had⟩⟩:=ha
     ·refine⟨fz,?_,Ft,Fo2,fun b=>by have:=hle b; have:=hle' b; have:=hle2 b; simp only[add,fz] at *; omega,ht,ho3⟩
      simp[repA,repT,repC]
     ·rcases hOa with⟨hn',_⟩ | ⟨b2,cap2,cur,F',hl2,hb,hlen,hc,hs,hr,rfl⟩
      ·rw[hn'] at hres; cases hres
      ·rw[hres] at hl2
       injection hl2 with hl2
       injection hl2 with hl2 hl3
       subst hl2; subst hl3
       have:=had (.inl trivial)
       subst this
       obtain⟨F3,hF3,h3⟩:=w0i n hr
       refine⟨add (Am.one b) F3,?_,Ft,Fo2,fun x=>by have:=hle x; have:=hle' x; have:=hF3 x; have:=hle2 x; simp only[add] at *; omega,ht,ho3⟩
       simp only[repA,repT,repC]
       have hlen2:(o'.xs.take n).length=n:=by rw[List.length_take]; omega
       refine .inr ⟨b,cap,cur,F3,by rw[hlen2]; simp,by rw[p04 ht9] at hb; exact hb,by omega,hc.1,hs,?_,rfl⟩
       rw[hlen2]
       rw[List.take_take] at h3
       have:min (n*o'.e) (o'.xs.length*o'.e)=n*o'.e:=Nat.min_eq_left (Nat.mul_le_mul_right _ hn)
       rw[this] at h3
       exact h3
end
end Go.Am
namespace Go.Am
def n06 (fzm:Bool) (σ:St) (c:C):Option (C×St):=
 match p0f σ (.one c) with
 | some (.one c',σ1)=>if c'.plain then some (if fzm then shr c' else c',σ1) else none
 | _=>none
def u0h (fzm:Bool):St→List C→Option (List C×St)
 | σ,[]=>some ([],σ)
 | σ,c :: cs=>match n06 fzm σ c with
   | some (c',σ1)=>match u0h fzm σ1 cs with
     | some (cs',σ2)=>some (c' :: cs',σ2)
     | none=>none
   | none=>none
def j00:A→Option (List C)
 | .one c=>some [c]
 | .agg cs=>some cs
 | .tup _=>none
def r0k (fzm:Bool) (σ:St) (x:X):Option (List C×St):=
 match v06 σ x with
 | some (a,σ1)=>match j00 a with
   | some cs=>u0h fzm σ1 cs
   | none=>none
 | none=>none
section
variable {w w':World} {N N':Nat→Prop} {lc lc':Loc} {tmps:Array Value} {ds:List Deferred} {F G:Fp} {σ σ1:St}
theorem t0p {c:C} {g:Value} {F:Fp} (h:repC w N c g F):g.oneCell'=true:=by
 cases c with
 | int k n=>rw[h.1]; rfl
 | bool b=>rw[h.1]; rfl
 | str s=>rw[h.1]; rfl
 | np=>rw[h.1]; rfl
 | vw=>exact h.elim
 | pt=>exact h.elim
 | ps=>exact h.elim
 | fn f cap=>obtain⟨_,vs,hg,_⟩:=h; rw[hg]; rfl
 | dead=>exact h.2
 | op t e cs=>
   simp only[repC] at h
   obtain⟨b,cur,F',rfl,_⟩:=h
   rfl
 | ar o t e xs=>
   cases o with
   | true=>
     simp only[repC] at h
     rcases h with⟨_,a0,rfl⟩ | ⟨b,cap,cur,F',rfl,_⟩ <;> rfl
   | false=>
     simp only[repC] at h
     obtain⟨_,a,cap,rfl,_⟩:=h
     rfl
theorem u03: ∀{cs:List C} {vs:List Value} {F:Fp},z0d w N cs vs F→∀v∈vs,v.oneCell'=true
 | [],_,_,h,v,hv=>by simp only[z0d] at h; rw[h.1] at hv; cases hv
 | c :: cs,_,_,h,v,hv=>by
   simp only[z0d] at h
   obtain⟨v0,vs',F1,F2,rfl,_,h1,h2⟩:=h
   rcases List.mem_cons.1 hv with rfl | hv
   ·exact t0p h1
   ·exact u03 h2 v hv
theorem w0h {e:Nat}: ∀{xs:List (List C)} {vs:List Value} {F:Fp},z09 w N e xs vs F→∀v∈vs,v.oneCell'=true
 | [],_,_,h,v,hv=>by simp only[z09] at h; rw[h.1] at hv; cases hv
 | c :: cs,_,_,h,v,hv=>by
   simp only[z09] at h
   obtain⟨v1,v2,F1,F2,rfl,_,_,h1,h2⟩:=h
   rcases List.mem_append.1 hv with hv | hv
   ·exact u03 h1 v hv
   ·exact w0h h2 v hv
def frzF (F G1:Fp):Fp:=fun b=>if 1≤G1 b then 0 else F b
def frzN (N:Nat→Prop) (G1:Fp):Nat→Prop:=fun b=>N b∨1≤G1 b
theorem p0e {G1:Fp} (hB:Base w N F) (h:Hold w N lc σ tmps F (add G G1)) :
 Base w (frzN N G1) (frzF F G1)∧Hold w (frzN N G1) lc σ tmps (frzF F G1) G∧Fr w F N lc w (frzF F G1) (frzN N G1) lc:=by
 obtain⟨Ft,Fo,hle,ht,ho⟩:=h
 have hG: ∀b,G1 b≤F b:=fun b=>by have:=hle b; simp only[add] at this; omega
 refine⟨⟨fun b=>?_,fun b hb=>?_,fun b hb=>?_⟩,⟨Ft,Fo,fun b=>?_,?_,?_⟩,⟨rfl,rfl,rfl,Nat.le_refl _,fun _ _ _=>rfl,fun b hb=>?_,fun b hb=> .inl hb,fun b hb=>?_,fun _ _=>rfl⟩⟩
 ·unfold frzF; split
  ·omega
  ·exact hB.one b
 ·unfold frzF at hb
  split at hb
  ·omega
  ·exact hB.lt b hb
 ·rcases hb with hb | hb
  ·have:=hB.nb b hb
   refine⟨?_,this.2⟩
   unfold frzF; split
   ·rfl
   ·exact this.1
  ·refine⟨?_,hB.lt b (Nat.le_trans hb (hG b))⟩
   unfold frzF; rw[if_pos hb]
 ·have h1:=hle b
  have h2:=hB.one b
  simp only[add] at h1
  unfold frzF
  split <;> omega
 ·exact u0y tmps σ.tm Ft (fun _ _=>rfl) (fun _ h=> .inl h) (fun _ _ _ h=>h) ht
 ·exact y0q σ.ob Fo (fun _ _=>rfl) (fun _ h=> .inl h) (fun _ _ _=>rfl) ho
 ·unfold frzF at hb
  split at hb
  ·omega
  ·exact .inl hb
 ·rcases hb with hb | hb
  ·exact .inl hb
  ·exact .inr (.inl (Nat.le_trans hb (hG b)))
theorem v0s {c:C} {v:Value} {F:Fp} (hp:c.plain=true) (h:repT w N lc c v F):repC w N c v F:=by
 cases c with
 | vw=>simp[C.plain] at hp
 | pt=>simp[C.plain] at hp
 | ps=>simp[C.plain] at hp
 | dead=>simp[C.plain] at hp
 | op=>exact h
 | int k n=>exact h
 | bool b=>exact h
 | str s=>exact h
 | np=>exact h
 | fn f cap=>
   have:cap=[]:=by simpa [C.plain] using hp
   subst this
   obtain⟨h1,vs,h2,h3,h4⟩:=h
   simp only[repC,z0d]
   exact⟨h1,vs,h2,h3,by trivial⟩
 | ar o t e xs=>exact h
theorem e0q {fzm:Bool} {c c':C} {v:Value} {G0:Fp} (h:n06 fzm σ c=some (c',σ1)) (hr:repT w N lc c v G0) (hB:Base w N F) (hh:Hold w N lc σ tmps F (add G G0)) :
 ∃N' F' G',repC w N' c' v G'∧Base w N' F'∧Hold w N' lc σ1 tmps F' (add G G')∧Fr w F N lc w F' N' lc:=by
 unfold n06 at h
 split at h
 case h_2=>cases h
 rename_i c2 σ2 hg
 split at h
 case isFalse=>cases h
 rename_i hp
 simp only[Option.some.injEq,Prod.mk.injEq] at h
 obtain⟨rfl,rfl⟩:=h
 have hgive: ∃G1,repT w N lc c2 v G1∧Hold w N lc σ2 tmps F (add G G1):=by
  by_cases haff:c.aff=true
  ·have:p0f σ (.one c)=some (.one c,σ):=by
    cases c <;> simp[C.aff] at haff <;> rfl
   rw[this] at hg
   simp only[Option.some.injEq,Prod.mk.injEq,A.one.injEq] at hg
   obtain⟨rfl,rfl⟩:=hg
   exact⟨G0,hr,hh⟩
  ·have haff:c.aff=false:=by simpa using haff
   have:=s0p haff hr
   subst this
   rw[z0g] at hh
   exact n0m (a:= .one c) hg haff hr hh
 obtain⟨G1,h1,h2⟩:=hgive
 cases fzm with
 | false=>
   simp only[Bool.false_eq_true,if_false]
   exact⟨N,F,G1,v0s hp h1,hB,h2,Fr.refl ..⟩
 | true=>
   simp only[if_true]
   obtain⟨h3,h4,h5⟩:=p0e hB h2
   exact⟨_,_,fz,u02 c2 v G1 (fun _ h=> .inr h) (fun _ h=> .inl h) (v0s hp h1),h3,by rw[z0g]; exact h4,h5⟩
theorem q00 {fzm:Bool}: ∀{cs cs':List C} {vs:List Value} {G0:Fp} {σ σ1:St} {N:Nat→Prop} {F G:Fp},u0h fzm σ cs=some (cs',σ1)→z0m w N lc cs vs G0→Base w N F→Hold w N lc σ tmps F (add G G0)→
 ∃N' F' G',z0d w N' cs' vs G'∧Base w N' F'∧Hold w N' lc σ1 tmps F' (add G G')∧Fr w F N lc w F' N' lc
 | [],cs',vs,G0,σ,σ1,N,F,G,h,hr,hB,hh=>by
   simp only[u0h,Option.some.injEq,Prod.mk.injEq] at h
   obtain⟨rfl,rfl⟩:=h
   obtain⟨rfl,rfl⟩:=hr
   exact⟨N,F,fz,by simp[z0d],hB,hh,Fr.refl ..⟩
 | c :: cs,cs',vs,G0,σ,σ1,N,F,G,h,hr,hB,hh=>by
   obtain⟨v,vs',F1,F2,rfl,rfl,h1,h2⟩:=hr
   simp only[u0h] at h
   cases hs:n06 fzm σ c with
   | none=>rw[hs] at h; simp at h
   | some x=>
     obtain⟨c2,σ2⟩:=x
     rw[hs] at h
     simp only at h
     cases hs2:u0h fzm σ2 cs with
     | none=>rw[hs2] at h; simp at h
     | some y=>
       obtain⟨cs2,σ3⟩:=y
       rw[hs2] at h
       simp only[Option.some.injEq,Prod.mk.injEq] at h
       obtain⟨rfl,rfl⟩:=h
       have hh1:Hold w N lc σ tmps F (add (add G F2) F1):=by
        have:add (add G F2) F1=add G (add F1 F2):=by funext x; simp only[add]; omega
        rw[this]; exact hh
       obtain⟨N1,Fa,Ga,ha,hBa,hHa,hFa⟩:=e0q hs h1 hB hh1
       have h2':z0m w N1 lc cs vs' F2:=x09 (p:=fun _ _=>false) cs vs' F2 (fun _ _=>rfl) hFa.nn (fun _ _ _ _ h=>h) (w02 cs) h2
       have hh2:Hold w N1 lc σ2 tmps Fa (add (add G Ga) F2):=by
        have:add (add G Ga) F2=add (add G F2) Ga:=by funext x; simp only[add]; omega
        rw[this]; exact hHa
       obtain⟨N2,Fb,Gb,hb,hBb,hHb,hFb⟩:=q00 hs2 h2' hBa hh2
       refine⟨N2,Fb,add Ga Gb,?_,hBb,?_,hFa.trans hFb⟩
       ·simp only[z0d]
        exact⟨v,vs',Ga,Gb,rfl,rfl,w05 c2 v Ga (fun _ _=>rfl) hFb.nn ha,hb⟩
       ·have:add G (add Ga Gb)=add (add G Ga) Gb:=by funext x; simp only[add]; omega
        rw[this]; exact hHb
theorem o05 {fzm:Bool} {x:X} {o:Operand} {cs:List C} (hx:XOf x o) (h:r0k fzm σ x=some (cs,σ1)) (hB:Base w N F) (hh:Hold w N lc σ tmps F G) :
 ∃(vs:List Value) (N':Nat→Prop) (F' G':Fp),((Act.mk tmps ds).eval o).cells=vs.toArray∧z0d w N' cs vs G'∧Base w N' F'∧Hold w N' lc σ1 tmps F' (add G G')∧Fr w F N lc w F' N' lc:=by
 unfold r0k at h
 cases ht:v06 σ x with
 | none=>rw[ht] at h; simp at h
 | some y=>
   obtain⟨a,σ2⟩:=y
   rw[ht] at h
   simp only at h
   cases hc:j00 a with
   | none=>rw[hc] at h; simp at h
   | some cs0=>
     rw[hc] at h
     simp only at h
     obtain⟨G1,hr,hH,_,_⟩:=y0w (ds:=ds) hx ht hh
     cases a with
     | tup xs=>simp[j00] at hc
     | agg cs1=>
       simp only[j00,Option.some.injEq] at hc
       subst hc
       obtain⟨vs,hv,hrow⟩:=hr
       obtain⟨N',F',G',h1,h2,h3,h4⟩:=q00 h hrow hB hH
       exact⟨vs,N',F',G',by rw[hv]; rfl,h1,h2,h3,h4⟩
     | one c=>
       simp only[j00,Option.some.injEq] at hc
       subst hc
       have hrow:z0m w N lc [c] [(Act.mk tmps ds).eval o] G1:=⟨_,[],G1,fz,rfl,(z0g _).symm,hr,rfl,rfl⟩
       obtain⟨N',F',G',h1,h2,h3,h4⟩:=q00 h hrow hB hH
       have hone:=u03 h1 _ (List.mem_singleton.2 rfl)
       refine⟨_,N',F',G',?_,h1,h2,h3,h4⟩
       cases hv:(Act.mk tmps ds).eval o with
       | agg=>rw[hv] at hone; simp[Value.oneCell'] at hone
       | _=>rfl
end
end Go.Am
namespace Go.Am
def deep:Nat→Path→Bool:=fun _ st=>!st.isEmpty
def e0p (ob:List (Nat×Obj)):Nat→Path→Bool:=fun id st=>match st with
 | []=>false
 | [_]=>(look ob id).isNone
 | _ :: _ :: _=>true
def z1s (c:C):C:=if c.aff then .dead else c
def w00 (xs:List (List C)) (lo n:Nat):List (List C):=xs.take lo ++ ((xs.drop lo).take n).map (List.map z1s) ++ xs.drop (lo+n)
def u0b (fzm:Bool) (e:Nat):St→List X→Option (List (List C)×St)
 | σ,[]=>some ([],σ)
 | σ,x :: xs=>match r0k fzm σ x with
   | some (cs,σ1)=>if cs.length=e then
      match u0b fzm e σ1 xs with
      | some (rs,σ2)=>some (cs :: rs,σ2)
      | none=>none
     else none
   | none=>none
def v0x (fzm:Bool):St→List C→List (Nat×Nat×X)→Option (List C×St)
 | σ,cs,[]=>some (cs,σ)
 | σ,cs,(off,n,x) :: ps=>match r0k fzm σ x with
   | some (r,σ1)=>if r.length=n∧off+n≤cs.length then v0x fzm σ1 (cs.take off ++ r ++ cs.drop (off+n)) ps else none
   | none=>none
def q0g:List (List C)→Bool
 | []=>false
 | r :: rs=>t0r r || q0g rs
def e0t (σ:St) (x:X):Option (A×St):=
 match v06 σ x with
 | some (a,σ1)=>m0d σ1 a
 | none=>none
def e0s (σ:St) (x:X):Option (A×St):=
 match v06 σ x with
 | some (a,σ1)=>p0f σ1 a
 | none=>none
def p1i (σ:St) (x:X):Option (Nat×List (List C)×St):=
 match v06 σ x with
 | some (.one (.ar _ _ e ys),σ1)=>some (e,ys,σ1)
 | some (.one (.vw _ e id st lo n),σ1)=>
   match look σ1.ob id with
   | some o=>match getA o.t o.e o.xs st with
     | some o'=>if o'.e=e∧lo+n≤o'.xs.length∧q0g ((o'.xs.drop lo).take n)=false then some (e,(o'.xs.drop lo).take n,σ1)
       else if o'.e=e∧lo+n≤o'.xs.length then some (e,(o'.xs.drop lo).take n,{ tm:=σ1.tm,ob:=put σ1.ob id ⟨o.t,o.e,setA o.xs st (w00 o'.xs lo n)⟩ }) else none
     | none=>none
   | none=>none
 | _=>none
def z1o (σ:St) (d t e:Nat) (cs:List C):St:=
 { tm:=put (w0u (fun id _=>id == d) σ.tm) d (.one (.pt e d [] 0 0)),ob:=put σ.ob d ⟨t,e,[cs]⟩ }
def z1n:A→Option (List C)
 | .agg cs=>some cs
 | .one c=>if c.plain then some [c] else none
 | .tup _=>none
def frzC (c:C):C:=if c.plain then shr c else c
def z1u:List C→List C
 | []=>[]
 | c :: cs=>frzC c :: z1u cs
def frzA:A→A
 | .one c=> .one (frzC c)
 | .agg cs=> .agg (z1u cs)
 | .tup xs=> .tup xs
def runM (d:Option Nat):I→St→Option St
 | .asf x,σ=>match d,e0t σ x with
   | some d,some (a,σ1)=>if (frzA a).aff then none else some { tm:=put σ1.tm d (frzA a),ob:=σ1.ob }
   | _,_=>none
 | .asn x,σ=>match d,e0t σ x with
   | some d,some (a,σ1)=>some (c0e d a σ1)
   | _,_=>none
 | .box t e x,σ=>match d,r0k false σ x with
   | some d,some (cs,σ1)=>if cs.length=e then some (z1o σ1 d t e cs) else none
   | _,_=>none
 | .boxs e x,σ=>match d,v06 σ x with
   | some d,some (a,σ1)=>match z1n a with
     | some cs=>if cs.length=e∧t0r cs=false then some (setT σ1 (some d) (.one (.ps cs))) else none
     | none=>none
   | _,_=>none
 | .alc t e z,σ=>match d with
   | some d=>some (z1o σ d t e z)
   | none=>none
 | .st n fzm p v,σ=>match d,ev σ p with
   | none,some (.one (.pt e id st i f))=>match r0k fzm σ v with
     | some (cs,σ1)=>if cs.length=n then
        match look σ1.ob id with
        | some o=>match getA o.t o.e o.xs st with
          | some o'=>if o'.e=e then
             match o'.xs[i]? with
             | some row=>if f+n≤row.length then
                some { tm:=if cs.all C.scal && ((row.drop f).take n).all C.scal then σ1.tm else w0u deep σ1.tm,
                       ob:=put σ1.ob id ⟨o.t,o.e,setA o.xs st (o'.xs.set i (row.take f ++ cs ++ row.drop (f+n)))⟩ }
               else none
             | none=>none
            else none
          | none=>none
        | none=>none
       else none
     | none=>none
   | _,_=>none
 | .bld fzm z parts,σ=>match v0x fzm σ z parts with
   | some (cs,σ1)=>some (setT σ1 d (.agg cs))
   | none=>none
 | .bls t e fzm parts,σ=>match u0b fzm e σ parts with
   | some (rs,σ1)=>some (setT σ1 d (.one (.ar true t e rs)))
   | none=>none
 | .mks t e _ z l c,σ=>match ev σ l,ev σ c with
   | some (.one (.int _ l)),some (.one (.int _ c))=>if 0≤l∧l≤c∧c≤4294967296 then some (setT σ d (.one (.ar true t e (List.replicate l.toNat z)))) else none
   | _,_=>none
 | .app t e _ fzm s x,σ=>match e0s σ s with
   | some (.one (.ar true t' e' xs),σ1)=>match p1i σ1 x with
     | some (e2,ys,σ2)=>if t'=t∧e'=e∧e2=e∧xs.length+ys.length≤4294967296 then
        some (setT { σ2 with tm:=w0u (e0p σ2.ob) σ2.tm } d (.one (.ar true t e (xs ++ if fzm then z0i ys else ys)))) else none
     | none=>none
   | _=>none
 | _,_=>none
end Go.Am
