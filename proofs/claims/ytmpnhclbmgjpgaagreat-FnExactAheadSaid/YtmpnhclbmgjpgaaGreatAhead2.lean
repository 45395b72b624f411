/- Text 2 for FnExactAhead. -/
import Derived.Test.YtmpnhclbmgjpgaaGreatAhead1
set_option linter.unusedVariables false
set_option linter.unusedSimpArgs false
namespace Go.Am
open Go.Proofs
set_option maxHeartbeats 4000000
set_option maxRecDepth 100000
attribute [-simp] BitVec.toNat_or BitVec.toNat_and BitVec.toNat_ofInt
section
theorem b0g {α:Type} {p:α→Bool} {xs:List α} {i:Nat} (h:i<xs.length):(xs.take (i+1)).all p=((xs.take i).all p && p xs[i]):=by
 rw[List.take_succ_eq_append_getElem h]
 simp only[List.all_append,List.all_cons,List.all_nil,Bool.and_true]
theorem b0e {α:Type} {p:α→Bool} {xs:List α} {i:Nat} (h:i<xs.length) (hp:p xs[i]=false):xs.all p=false:=by
 cases ha:xs.all p with
 | false=>rfl
 | true=>
   have:=List.all_eq_true.1 ha xs[i] (List.getElem_mem h)
   rw[hp] at this; cases this
def n0c {α:Type} (p:α→Bool) (xs:List α) (i:Nat):Bool:=(xs.take i).all p
theorem r0o {α:Type} {p:α→Bool} {xs:List α}:n0c p xs 0=true:=by simp[n0c]
theorem r0n {α:Type} {p:α→Bool} {xs:List α} {i:Nat} (h:i<xs.length):n0c p xs (i+1)=(n0c p xs i && p xs[i]):=b0g h
theorem p07 {α:Type} {p:α→Bool} {xs:List α}:n0c p xs xs.length=xs.all p:=by rw[n0c,List.take_length]
def allN (p:Nat→Bool):Nat→Bool
 | 0=>true
 | n+1=>allN p n && p n
theorem v0a {p:Nat→Bool} {n:Nat}:allN p (n+1)=(allN p n && p n):=rfl
theorem p06 {p:Nat→Bool}: ∀{n:Nat},allN p n=true↔∀i,i<n→p i=true
 | 0=>by simp[allN]
 | n+1=>by
   rw[allN,Bool.and_eq_true,p06 (n:=n)]
   constructor
   ·rintro⟨h1,h2⟩ i hi
    by_cases h:i=n
    ·subst h; exact h2
    ·exact h1 i (by omega)
   ·intro h; exact⟨fun i hi=>h i (by omega),h n (by omega)⟩
theorem s0f {p:Nat→Bool} {n i:Nat} (h:i<n) (hp:p i=false):allN p n=false:=by
 cases ha:allN p n with
 | false=>rfl
 | true=>have:=p06.1 ha i h; rw[hp] at this; cases this
end
section
def q0o (xs:List Int) (x:Int):Int:=match xs.idxOf? x with
 | some i=>i
 | none=> -1
def e1h:K:=dc 0x4101e41041008480482e480040810c41110511400810100903cb2c43ce00108e34c04734500c0002c100604014a04a2000810011400060c908024720d1010400370400c81c10041c0148039007183180003040004039041040
def l15:Nat×List RV:=(19,[.t 4])
theorem c_132:z01 PA 132 l15 e1h:=by unfold z01; kernel_rfl
theorem h01 (xs:List Int) (x:Int) (hx:xs.length<2 ^ 63):z06 Tryz.prog 132 [.one (.ar false 0 1 (xs.map rI)),aI x] (aI (q0o xs x)):=by
 refine Prun c_132 (by simp[l15]) (by simp) ?_
 (conv in e1h=>reduce); unfold l15
 simp
 refine z04 (fun n σ=>∃i:Nat,i≤xs.length∧n=xs.length - i∧x ∉ xs.take i∧σ=⟨[(0,.one (.ar false 0 1 (xs.map rI))),(1,aI x),(7,aI xs.length),(8,aI i)],[]⟩) xs.length ⟨0,by simp⟩ ?_
 rintro n σ ⟨i,hi,rfl,ha,rfl⟩
 by_cases h:i<xs.length
 ·by_cases c:x=xs[i]
  ·have:q0o xs x=i:=by
    have:xs.idxOf? x=some i:=by
     rw[List.idxOf?,List.findIdx?_eq_some_iff_getElem]
     refine⟨h,by simp[c],fun j hj=>?_⟩
     simp only[beq_iff_eq,Bool.not_eq_true,beq_eq_false_iff_ne,ne_eq]
     intro he
     exact ha (by rw[← he]; exact List.mem_take_iff_getElem.2 ⟨j,by omega,rfl⟩)
    rw[q0o,this]
   simp[h,← c,this]
  ·simp[h,c]
   refine⟨xs.length - (i+1),by omega,i+1,by omega,rfl,?_,?_⟩
   ·rw[List.take_succ_eq_append_getElem h]
    intro hm
    rcases List.mem_append.1 hm with hm | hm
    ·exact ha hm
    ·exact c (List.mem_singleton.1 hm)
   ·rw[z08 (by omega) (by omega)]
    simp
 ·have:i=xs.length:=by omega
  subst this
  rw[List.take_length] at ha
  have:q0o xs x = -1:=by
   have:xs.idxOf? x=none:=by
    rw[List.idxOf?_eq_none_iff]; exact ha
   rw[q0o,this]
  simp[this]
def k_81:K:=dc 0x104201200e474041c614272914604014000504013a041040
def r_81:Nat×List RV:=(9,[.t 4])
theorem c_81:z01 PA 81 r_81 k_81:=by unfold z01; kernel_rfl
theorem n0e (xs:List Int) (x:Int) (hx:xs.length<2 ^ 63):z06 Tryz.prog 81 [.one (.ar false 0 1 (xs.map rI)),aI x] (aB (decide (x∈xs))):=by
 refine Prun c_81 (by simp[r_81]) (by simp) ?_
 (conv in k_81=>reduce); unfold r_81
 simp
 refine z00 (h01 _ _ hx) (by simp) ?_
 have:(0≤q0o xs x)↔x∈xs:=by
  unfold q0o
  split
  ·rename_i i h
   have:=List.isSome_idxOf? (l:=xs) (a:=x)
   rw[h] at this
   simp at this
   constructor
   ·intro; exact this
   ·intro; omega
  ·rename_i h
   rw[List.idxOf?_eq_none_iff] at h
   constructor
   ·intro; omega
   ·intro h2; exact absurd h2 h
 simp[this]
end
section
def b17:K:=dc 0x413b0410401500500b93c010f1400c10c413a04104064265850c1185c00425d65411d61405410144c00424d24411d214044000924020004500018338238d2cd10d30330000b1401010000371410041410031c0145039041040003104e8104100a08a2473042480c80401c60c600014100013a041040
def j1t:Nat×List RV:=(26,[.t 4])
theorem c_251:z01 PA 251 j1t b17:=by unfold z01; kernel_rfl
theorem n0o (xs:List Int) (hx:wL w0 xs<2 ^ 40):z06 Tryz.prog 251 [.one (.ar false 0 1 (xs.map rI)),.one (.ar false 0 1 (xs.map rI))] (aB true):=by
 refine Prun c_251 (by simp[j1t]) (by simp) ?_
 (conv in b17=>reduce); unfold j1t
 rw[v09] at hx
 simp
 refine z04 (fun n σ=>∃i:Nat,i≤xs.length∧n=xs.length - i∧σ=⟨[(0,.one (.ar false 0 1 (xs.map rI))),(1,.one (.ar false 0 1 (xs.map rI))),(5,aI i)],[]⟩) (xs.length) ⟨0,by simp⟩ ?_
 rintro n σ ⟨i,hi,rfl,rfl⟩
 by_cases h:i<xs.length
 ·simp[h]
  refine⟨xs.length - (i+1),by omega,i+1,by omega,rfl,?_⟩
  rw[z08 (by omega) (by omega)]
  simp
 ·simp[h]
def c1w:K:=dc 0x40950550c0081004341342e4c00430400305350004bf143ce0474d20010924500474440100003c400e0c02010450001832c22ca20d10a2432400081001010000371030041030031c01440390410400031c11c61800000480439461431400040400810c10fc041040
def j1i:Nat×List RV:=(22,[.t 2])
theorem c_240:z01 PA 240 j1i c1w:=by unfold z01; kernel_rfl
theorem n0r (xs:List Int) (hx:wL w0 xs<2 ^ 31):z06 Tryz.prog 240 [.one (.ar false 0 1 (xs.map rI))] (.one (.ar true 3 1 (xs.map rI))):=by
 refine Prun c_240 (by simp[j1i]) (by simp) ?_
 (conv in c1w=>reduce); unfold j1i
 rw[v09] at hx
 have hc:((xs.length:Int)≤4294967296):=by omega
 simp[hc]
 refine z04 (fun n σ=>∃i:Nat,i≤xs.length∧n=xs.length - i∧σ=⟨[(0,.one (.ar false 0 1 (xs.map rI))),(3,.one (.vw 3 1 3 [] 0 xs.length)),(4,aI i)],[(3,⟨3,1,part rI [.int .i64 0] xs i⟩)]⟩) (xs.length) ⟨0,by simp[x0t]⟩ ?_
 rintro n σ ⟨i,hi,rfl,rfl⟩
 by_cases h:i<xs.length
 ·simp[h,w0o h]
  refine⟨xs.length - (i+1),by omega,i+1,by omega,rfl,?_⟩
  rw[z08 (by omega) (by omega)]
  have:=w0p (r:=rI) (z:=[.int .i64 0]) h
  simp only[rI] at this
  simp[this]
 ·have:i=xs.length:=by omega
  subst this
  simp[w0n]
end
section
structure TConf where
 alt:Int
 row:List Int
 deriving DecidableEq,Inhabited
def u0t (a:TConf):List C:=[cI a.alt,.ar true 3 1 (a.row.map rI)]
def z0k (a:TConf):List C:=[cI a.alt,.ar false 0 1 (a.row.map rI)]
def x1c:List C:=[cI 0,.ar true 3 1 []]
@[simp] theorem a1w (a:TConf):(u0t a).length=2:=rfl
@[simp] theorem z2f (a:TConf):(z0k a).length=2:=rfl
@[simp] theorem s11 (a:TConf):y04 (u0t a)=z0k a:=by simp[u0t,z0k]
@[simp] theorem s17 (a:TConf):y04 (z0k a)=z0k a:=by simp[z0k]
@[simp] theorem g1g (xs:List TConf):z0i (xs.map u0t)=xs.map z0k:=z0p s11 xs
@[simp] theorem g1m (xs:List TConf):z0i (xs.map z0k)=xs.map z0k:=z0p s17 xs
@[simp] theorem g12 (xs:List TConf):y0c (xs.map u0t)=true:=w0e (fun a=>by simp[u0t]) xs
def y0f (a:TConf):Nat:=wL w0 a.row
def f0j (a:TConf):Prop:=lL l0 a.row
end
section
def rIS (a:List Int):List C:=[.ar true 3 1 (a.map rI)]
def sIS (a:List Int):List C:=[.ar false 0 1 (a.map rI)]
def zIS:List C:=[.ar true 3 1 []]
@[simp] theorem rIS_len (a:List Int):(rIS a).length=1:=rfl
@[simp] theorem sIS_len (a:List Int):(sIS a).length=1:=rfl
@[simp] theorem h1g (a:List Int):y04 (rIS a)=sIS a:=by simp[rIS,sIS]
@[simp] theorem h1h (a:List Int):y04 (sIS a)=sIS a:=by simp[sIS]
@[simp] theorem shrs_rIS (xs:List (List Int)):z0i (xs.map rIS)=xs.map sIS:=z0p h1g xs
@[simp] theorem shrs_sIS (xs:List (List Int)):z0i (xs.map sIS)=xs.map sIS:=z0p h1h xs
@[simp] theorem noSh_rIS (xs:List (List Int)):y0c (xs.map rIS)=true:=w0e (fun a=>by simp[rIS]) xs
end
section
def rISS (a:List (List Int)):List C:=[.ar true 54 1 (a.map rIS)]
def sISS (a:List (List Int)):List C:=[.ar false 0 1 (a.map sIS)]
def zISS:List C:=[.ar true 54 1 []]
@[simp] theorem rISS_len (a:List (List Int)):(rISS a).length=1:=rfl
@[simp] theorem sISS_len (a:List (List Int)):(sISS a).length=1:=rfl
@[simp] theorem p18 (a:List (List Int)):y04 (rISS a)=sISS a:=by simp[rISS,sISS]
@[simp] theorem p1c (a:List (List Int)):y04 (sISS a)=sISS a:=by simp[sISS]
@[simp] theorem z2o (xs:List (List (List Int))):z0i (xs.map rISS)=xs.map sISS:=z0p p18 xs
@[simp] theorem z2s (xs:List (List (List Int))):z0i (xs.map sISS)=xs.map sISS:=z0p p1c xs
@[simp] theorem a1m (xs:List (List (List Int))):y0c (xs.map rISS)=true:=w0e (fun a=>by simp[rISS]) xs
theorem of_IS (x:List C) (h:y0v [.l 1 [.i]] x): ∃a:List Int,x=sIS a∧lL l0 a:=by
 simp only[y0v] at h
 obtain⟨c0,r0,rfl,h0,rfl⟩:=h
 obtain⟨n0,rfl,g0⟩:=r07 a0b c0 h0
 exact⟨n0,rfl,g0⟩
theorem a1q (x:List C) (h:y0v [.l 1 [.l 1 [.i]]] x): ∃a:List (List Int),x=sISS a∧lL (lL l0) a:=by
 simp only[y0v] at h
 obtain⟨c0,r0,rfl,h0,rfl⟩:=h
 obtain⟨n0,rfl,g0⟩:=r07 of_IS c0 h0
 exact⟨n0,rfl,g0⟩
end
section
structure TGram where
 parts:List (List (List Int))
 deriving DecidableEq,Inhabited
def q0u (a:TGram):List C:=[.ar true 80 1 (a.parts.map rISS)]
def z0b (a:TGram):List C:=[.ar false 0 1 (a.parts.map sISS)]
def x1d:List C:=[.ar true 80 1 []]
@[simp] theorem a1y (a:TGram):(q0u a).length=1:=rfl
@[simp] theorem z2g (a:TGram):(z0b a).length=1:=rfl
@[simp] theorem s12 (a:TGram):y04 (q0u a)=z0b a:=by simp[q0u,z0b]
@[simp] theorem s18 (a:TGram):y04 (z0b a)=z0b a:=by simp[z0b]
@[simp] theorem g1h (xs:List TGram):z0i (xs.map q0u)=xs.map z0b:=z0p s12 xs
@[simp] theorem g1n (xs:List TGram):z0i (xs.map z0b)=xs.map z0b:=z0p s18 xs
@[simp] theorem g13 (xs:List TGram):y0c (xs.map q0u)=true:=w0e (fun a=>by simp[q0u]) xs
def z0q (a:TGram):Nat:=wL (wL (wL w0)) a.parts
def x0d (a:TGram):Prop:=lL (lL (lL l0)) a.parts
end
section
def inr (a lo hi:Int):Bool:=decide (lo≤a) && decide (a≤hi)
theorem z0l {a lo hi:Int}:inr a lo hi=true↔lo≤a∧a≤hi:=by simp[inr]
def k_58:K:=dc 0x418e04ee8d28a30b38434af4200c2bd0002caf4a2402481d01080401c00090401ba041040
def r_58:Nat×List RV:=(15,[.t 6])
theorem c_58:z01 PA 58 r_58 k_58:=by unfold z01; kernel_rfl
theorem z0f (a lo hi:Int):z06 Tryz.prog 58 [aI a,aI lo,aI hi] (aB (inr a lo hi)):=by
 refine Prun c_58 (by simp[r_58]) (by simp) ?_
 (conv in k_58=>reduce); unfold r_58
 by_cases h:lo≤a
 ·simp[h,inr]
 ·simp[h,inr]
def k_62:K:=dc 0x418e04ee8d28a30b38434af4200c2bd0002caf4a2402481d01080401c00090401ba041040
def r_62:Nat×List RV:=(15,[.t 6])
theorem c_62:z01 PA 62 r_62 k_62:=by unfold z01; kernel_rfl
theorem z0n (a lo hi:Int):z06 Tryz.prog 62 [aI a,aI lo,aI hi] (aB (inr a lo hi)):=by
 refine Prun c_62 (by simp[r_62]) (by simp) ?_
 (conv in k_62=>reduce); unfold r_62
 by_cases h:lo≤a
 ·simp[h,inr]
 ·simp[h,inr]
end
section
def y08 (w:List Int):Bool:=decide (w.length≤10) && w.all (fun x=>inr x 0 25)
def k_60:K:=dc 0x40bb0410400cc04c0b92c010b0c00c10c40ba0410404824912512a8e40e500d2a0540f00108f38d04738300d0001810011400060ca08a2473442480c80001c3004040000dc30030c00870050c0e410410000c40ba041040182194e453c41440c40000c10000ba041040
def r_60:Nat×List RV:=(19,[.t 2])
theorem c_60:z01 PA 60 r_60 k_60:=by unfold z01; kernel_rfl
theorem w0v (w:List Int):z06 Tryz.prog 60 [.one (.ar false 0 1 (w.map rI))] (aB (y08 w)):=by
 refine Prun c_60 (by simp[r_60]) (by simp) ?_
 (conv in k_60=>reduce); unfold r_60
 by_cases g:(10:Int)<(w.length:Int)
 ·have: ¬w.length≤10:=by omega
  simp[g,y08,this]
 have g':w.length≤10:=by omega
 simp[g]
 refine z04 (fun n σ=>∃i:Nat,i≤w.length∧n=w.length - i∧n0c (fun x=>inr x 0 25) w i=true∧σ=⟨[(0,.one (.ar false 0 1 (w.map rI))),(3,aI i)],[]⟩) w.length ⟨0,by simp[r0o]⟩ ?_
 rintro n σ ⟨i,hi,rfl,ha,rfl⟩
 by_cases h:i<w.length
 ·have hs:=r0n (p:=fun x=>inr x 0 25) h
  simp[h]
  refine z00 (z0f _ _ _) (by simp) ?_
  cases c:inr w[i] 0 25
  ·have:=b0e (p:=fun x=>inr x 0 25) h c
   simp[c,y08,this]
  ·simp[c]
   refine⟨w.length - (i+1),by omega,i+1,by omega,rfl,by rw[hs,ha,c]; rfl,?_⟩
   rw[z08 (by omega) (by omega)]
   simp
 ·have:i=w.length:=by omega
  subst this
  rw[p07] at ha
  simp[y08,ha,g']
def e17:K:=dc 0x40840442a8e40e430d6a050c00030400ba041040
def m1v:Nat×List RV:=(5,[.t 2])
theorem c_117:z01 PA 117 m1v e17:=by unfold z01; kernel_rfl
theorem r0r (a:Int):z06 Tryz.prog 117 [aI a] (aB (inr a 0 25)):=by
 refine Prun c_117 (by simp[m1v]) (by simp) ?_
 (conv in e17=>reduce); unfold m1v
 simp
 refine z00 (z0n _ _ _) (by simp) ?_
 simp
def k_65:K:=dc 0x102441454e5038440f0cf000101007380382e470040810c40ba04104034234c24c2c136914b1000c10042812890010891c50470c10011400060c80802061cd1010400370021c61401070051c0e401850c50000c10000ba041040
def r_65:Nat×List RV:=(18,[.t 2])
theorem c_65:z01 PA 65 r_65 k_65:=by unfold z01; kernel_rfl
theorem t0t (w:List Int) (hw:w.length<2 ^ 63):z06 Tryz.prog 65 [.one (.ar false 0 1 (w.map rI))] (aB (y08 w)):=by
 refine Prun c_65 (by simp[r_65]) (by simp) ?_
 (conv in k_65=>reduce); unfold r_65
 simp
 refine z04 (fun n σ=>∃i:Nat,i≤w.length∧n=w.length - i∧n0c (fun x=>inr x 0 25) w i=true∧σ=⟨[(0,.one (.ar false 0 1 (w.map rI))),(5,.one (.ar false 0 1 (w.map rI))),(6,aI w.length),(7,aI i)],[]⟩) w.length ⟨0,by simp[r0o]⟩ ?_
 rintro n σ ⟨i,hi,rfl,ha,rfl⟩
 by_cases h:i<w.length
 ·have hs:=r0n (p:=fun x=>inr x 0 25) h
  simp[h]
  refine z00 (r0r _) (by simp) ?_
  cases c:inr w[i] 0 25
  ·have:=b0e (p:=fun x=>inr x 0 25) h c
   simp[c,y08,this]
  ·simp[c]
   refine⟨w.length - (i+1),by omega,i+1,by omega,rfl,by rw[hs,ha,c]; rfl,?_⟩
   rw[z08 (by omega) (by omega)]
   simp
 ·have:i=w.length:=by omega
  subst this
  rw[p07] at ha
  by_cases g:(w.length:Int)≤10
  ·have g':w.length≤10:=by omega
   simp[y08,ha,g,g']
  ·have g': ¬w.length≤10:=by omega
   simp[y08,ha,g,g']
end
section
theorem e0y {e id i:Nat} {st:Path}: ∀{cs:List C} {f:Nat},w0y cs=true→r0l e id st i f cs=cs
 | [],_,_=>rfl
 | c :: cs,f,h=>by
   simp only[w0y,Bool.and_eq_true] at h
   rw[r0l,e0y h.2]
   cases c <;> simp[C.sc] at h <;> rfl
theorem i02 {fz:Bool} {σ:St}: ∀{cs:List C},w0y cs=true→u0h fz σ cs=some (cs,σ)
 | [],_=>rfl
 | c :: cs,h=>by
   simp only[w0y,Bool.and_eq_true] at h
   have:n06 fz σ c=some (c,σ):=by cases c <;> simp[C.sc] at h <;> simp[n06,p0f,m0d,C.plain,shr]
   rw[u0h,this]
   simp only[i02 h.2]
theorem b0a: ∀{cs:List C},w0y cs=true→t0r cs=false
 | [],_=>rfl
 | c :: cs,h=>by
   simp only[w0y,Bool.and_eq_true] at h
   rw[t0r,b0a h.2,Bool.or_false]
   cases c <;> simp[C.sc] at h <;> rfl
theorem n0t {p:Nat→Path→Bool}: ∀{cs:List C},w0y cs=true→x0f p cs=false
 | [],_=>rfl
 | c :: cs,h=>by
   simp only[w0y,Bool.and_eq_true] at h
   rw[x0f,n0t h.2,Bool.or_false]
   cases c <;> simp[C.sc] at h <;> rfl
theorem j0f: ∀{cs:List C},w0y cs=true→w0t cs=true
 | [],_=>rfl
 | c :: cs,h=>by
   simp only[w0y,Bool.and_eq_true] at h
   rw[w0t,j0f h.2,Bool.and_true]
   cases c <;> simp[C.sc] at h <;> rfl
theorem l0w: ∀{cs:List C},w0y cs=true→y04 cs=cs
 | [],_=>rfl
 | c :: cs,h=>by
   simp only[w0y,Bool.and_eq_true] at h
   rw[y04,l0w h.2]
   cases c <;> simp[C.sc] at h <;> simp[shr]
theorem m0v {σ:St}: ∀{cs:List C},w0y cs=true→u0k σ cs=some (false,cs)
 | [],_=>rfl
 | c :: cs,h=>by
   simp only[w0y,Bool.and_eq_true] at h
   have:v0q σ c=some (false,c):=by cases c <;> simp[C.sc] at h <;> simp[v0q,shr]
   rw[u0k,this,m0v h.2]
   rfl
theorem o08: ∀{cs:List C},w0y cs=true→cs.all C.scal=true
 | [],_=>rfl
 | c :: cs,h=>by
   simp only[w0y,Bool.and_eq_true] at h
   rw[List.all_cons,o08 h.2,Bool.and_true]
   cases c <;> simp[C.sc] at h <;> rfl
theorem n0z: ∀{cs:List C},w0y cs=true→cs.all C.plain=true
 | [],_=>rfl
 | c :: cs,h=>by
   simp only[w0y,Bool.and_eq_true] at h
   rw[List.all_cons,n0z h.2,Bool.and_true]
   cases c <;> simp[C.sc] at h <;> rfl
theorem cut1 {α:Type} {l:List α} {k:Nat} (h:k<l.length):(l.drop k).take 1=[l[k]]:=by
 rw[List.drop_eq_getElem_cons h,List.take_succ_cons,List.take_zero]
theorem put1 {α:Type} {l:List α} {k:Nat} {x:α} (h:k<l.length):l.take k ++ x :: l.drop (k+1)=l.set k x:=by
 rw[List.set_eq_take_append_cons_drop,if_pos h]
end
section
def ordI (a b:Int):Int:=if a<b then -1 else if b<a then 1 else 0
def ordL:List Int→List Int→Int
 | [],[]=>0
 | [],_ :: _=> -1
 | _ :: _,[]=>1
 | a :: u,b :: v=>if ordI a b=0 then ordL u v else ordI a b
def orI:List Int→Int
 | []=>0
 | a :: u=>if a=0 then orI u else a
theorem h0f {a b:Int}:ordI a b=0↔a=b:=by unfold ordI; split <;> (try split) <;> omega
theorem c0g: ∀{a b:List Int},ordL a b=0↔a=b
 | [],[]=>by simp[ordL]
 | [],_ :: _=>by simp[ordL]
 | _ :: _,[]=>by simp[ordL]
 | a :: u,b :: v=>by
   simp only[ordL]
   by_cases h:ordI a b=0
   ·rw[if_pos h,c0g]
    have:=h0f.1 h
    subst this
    simp
   ·rw[if_neg h]
    constructor
    ·intro h2; exact absurd h2 h
    ·intro h2
     injection h2 with h3 h4
     exact absurd (h0f.2 h3) h
theorem f0z {a b:List Int} {i:Nat} (ha:i<a.length) (hb:i<b.length):ordL (a.drop i) (b.drop i)=if ordI a[i] b[i]=0 then ordL (a.drop (i+1)) (b.drop (i+1)) else ordI a[i] b[i]:=by
 rw[List.drop_eq_getElem_cons ha,List.drop_eq_getElem_cons hb,ordL]
theorem h0g {a b:List Int} {i:Nat} (h:a.length≤i∨b.length≤i) (ha:i≤a.length) (hb:i≤b.length):ordL (a.drop i) (b.drop i)=if a.length<b.length then -1 else if b.length<a.length then 1 else 0:=by
 rcases Nat.lt_trichotomy a.length b.length with hl | hl | hl
 ·have:i=a.length:=by omega
  rw[if_pos hl,List.drop_eq_nil_of_le (by omega:a.length≤i),List.drop_eq_getElem_cons (by omega:i<b.length)]
  rfl
 ·rw[if_neg (by omega),if_neg (by omega),List.drop_eq_nil_of_le (by omega:a.length≤i),List.drop_eq_nil_of_le (by omega:b.length≤i)]
  rfl
 ·rw[if_neg (by omega),if_pos hl,List.drop_eq_nil_of_le (by omega:b.length≤i),List.drop_eq_getElem_cons (by omega:i<a.length)]
  rfl
end
section
def k_45:K:=dc 0x4080e410410031020b90410400c20c0001040002039041040
def r_45:Nat×List RV:=(4,[.t 2])
theorem c_45:z01 PA 45 r_45 k_45:=by unfold z01; kernel_rfl
theorem i0x (b:Bool):z06 Tryz.prog 45 [aB b] (aI (if b then 1 else 0)):=by
 refine Prun c_45 (by simp[r_45]) (by simp) ?_
 (conv in k_45=>reduce); unfold r_45
 cases b <;> simp
end
section
def bitI (b:Bool):Int:=if b then 1 else 0
theorem o0x (b:Bool):z06 Tryz.prog 45 [aB b] (aI (bitI b)):=i0x b
def c1l:K:=dc 0x104b811a8b41168145a2ca8f104a2b0c3a01002a290c1a000070400c4101e41041028080a2794d127983981025903900005040005441442e500044050030431040b90410408c28e278f1228400428607c11e01407c101e74004275c6c11dc1406c00092402000c4101e4104101a09a6553446580010985d60475c50160405540010944d20474c50120002490080000450001833c23fa38a28d2cd10e2bd30334af4100c2bd1402caf4a24024818d1081c31c00061402810000371410041410031c0145039041040004039041040
def j17:Nat×List RV:=(47,[.t 4])
theorem c_228:z01 PA 228 j17 c1l:=by unfold z01; kernel_rfl
theorem k0c (xs ys:List Int) (hx:xs.length<2 ^ 40):z06 Tryz.prog 228 [.one (.ar false 0 1 (xs.map rI)),.one (.ar false 0 1 (ys.map rI))] (aI (ordL xs ys)):=by
 refine Prun c_228 (by simp[j17]) (by simp) ?_
 (conv in c1l=>reduce); unfold j17
 simp
 refine z04 (fun n σ=>∃i:Nat,i≤xs.length∧i≤ys.length∧n=xs.length - i∧ordL xs ys=ordL (xs.drop i) (ys.drop i)∧σ=⟨[(0,.one (.ar false 0 1 (xs.map rI))),(1,.one (.ar false 0 1 (ys.map rI))),(5,aI i)],[]⟩) (xs.length) ⟨0,by simp⟩ ?_
 rintro n σ ⟨i,hi,hi2,rfl,ht,rfl⟩
 have hend: ∀h:xs.length≤i∨ys.length≤i,ordL xs ys=if xs.length<ys.length then -1 else bitI (decide (ys.length<xs.length)):=fun h=>by
  rw[ht,h0g h hi hi2]; simp[bitI]
 by_cases h:i<xs.length
 ·by_cases h2:i<ys.length
  ·rw[f0z h h2] at ht
   by_cases c1:xs[i]<ys[i]
   ·have:ordI xs[i] ys[i] = -1:=by unfold ordI; rw[if_pos c1]
    rw[this,if_neg (by omega)] at ht
    simp[h,h2,c1,ht]
   ·by_cases c2:ys[i]<xs[i]
    ·have:ordI xs[i] ys[i]=1:=by unfold ordI; rw[if_neg c1,if_pos c2]
     rw[this,if_neg (by omega)] at ht
     simp[h,h2,c1,c2,ht]
    ·have:ordI xs[i] ys[i]=0:=by unfold ordI; rw[if_neg c1,if_neg c2]
     rw[this,if_pos rfl] at ht
     simp[h,h2,c1,c2]
     refine⟨xs.length - (i+1),by omega,i+1,by omega,by omega,rfl,ht,?_⟩
     rw[z08 (by omega) (by omega)]
     simp
  ·have he:=hend (.inr (by omega))
   by_cases c1:xs.length<ys.length
   ·omega
   ·have c3: ¬(xs.length:Int)<ys.length:=by omega
    rw[if_neg c1] at he
    simp[h,h2,c1]
    refine z00 (o0x _) (by simp) ?_
    simp[he]
 ·have he:=hend (.inl (by omega))
  by_cases c1:xs.length<ys.length
  ·rw[if_pos c1] at he
   simp[h,c1,he]
  ·rw[if_neg c1] at he
   simp[h,c1]
   refine z00 (o0x _) (by simp) ?_
   simp[he]
end
section
def d1m:K:=dc 0x1021411440cc1040000c00040400ba041040
def k1a:Nat×List RV:=(6,[.t 2])
theorem c_186:z01 PA 186 k1a d1m:=by unfold z01; kernel_rfl
theorem v17 (a:Int):z06 Tryz.prog 186 [aI a] (aB false):=by
 refine Prun c_186 (by simp[k1a]) (by simp) ?_
 (conv in d1m=>reduce); unfold k1a
 simp
def e1i:K:=dc 0x4100e410410031040b90410404c24d244f11204044000304000310407904104040240f38d10f0403800030400031040b90410403423460010400031040790410400c4100e4104100c08c1800410002c22c5001040006281289052a852410030401480481c14aa1470000c1004039041040
def l16:Nat×List RV:=(20,[.t 4])
theorem c_133:z01 PA 133 l16 e1i:=by unfold z01; kernel_rfl
theorem o0w (a b:Int):z06 Tryz.prog 133 [aI a,aI b] (aI (ordI a b)):=by
 refine Prun c_133 (by simp[l16]) (by simp) ?_
 (conv in e1i=>reduce); unfold l16
 simp
 refine z00 (v17 a) (by simp) ?_
 simp
 refine z00 (v17 b) (by simp) ?_
 by_cases c1:a<b
 ·simp[c1,ordI]
 ·by_cases c2:b<a
  ·simp[c1,c2,ordI]
  ·simp[c1,c2,ordI]
def b1w:K:=dc 0x1024414430020402100100b92001020431023c13c500204038238d30c10d0c030500304014b04b2800422881811c30400450001832420091c8344041000dc3003207183107005200e401c60c60000c10000c0e41041002039041040
def i1j:Nat×List RV:=(18,[.t 2])
theorem c_292:z01 PA 292 i1j b1w:=by unfold z01; kernel_rfl
theorem n1g (xs:List Int) (hx:xs.length<2 ^ 40):z06 Tryz.prog 292 [.one (.ar false 0 1 (xs.map rI))] (aI (orI xs)):=by
 refine Prun c_292 (by simp[i1j]) (by simp) ?_
 (conv in b1w=>reduce); unfold i1j
 simp
 refine z04 (fun n σ=>∃i:Nat,i≤xs.length∧n=xs.length - i∧orI xs=orI (xs.drop i)∧σ=⟨[(3,aI 0),(6,.one (.ar false 0 1 (xs.map rI))),(7,aI xs.length),(8,aI i)],[]⟩) (xs.length) ⟨0,by simp⟩ ?_
 rintro n σ ⟨i,hi,rfl,ht,rfl⟩
 by_cases h:i<xs.length
 ·rw[List.drop_eq_getElem_cons h,orI] at ht
  by_cases c1:xs[i]=0
  ·rw[if_pos c1] at ht
   simp[h,c1]
   refine⟨xs.length - (i+1),by omega,i+1,by omega,rfl,ht,?_⟩
   rw[z08 (by omega) (by omega)]
   simp
  ·rw[if_neg c1] at ht
   simp[h,c1,ht]
 ·have:i=xs.length:=by omega
  subst this
  rw[List.drop_length,orI] at ht
  simp[ht]
def k_82:K:=dc 0x1040390410400c4101e410410230a38a03448a10e104081f0df0001410002de01e0b92c0102043104741748002040702700e5b3046c800204021a05a65809da456470181801010075c15d60010965540475450140401410031040b90410404c24d241011244344101014010100018f0453413ce00108e2c904734b00504004500018330200c28b344041000dc10032ca2410051c014b03900a243240003040004039041040
def r_82:Nat×List RV:=(36,[.t 4])
theorem c_82:z01 PA 82 r_82 k_82:=by unfold z01; kernel_rfl
theorem m0n (xs ys:List Int) (hx:xs.length<2 ^ 40):z06 Tryz.prog 82 [.one (.ar false 0 1 (xs.map rI)),.one (.ar false 0 1 (ys.map rI))] (aI (ordL xs ys)):=by
 refine Prun c_82 (by simp[r_82]) (by simp) ?_
 (conv in k_82=>reduce); unfold r_82
 simp
 refine z04 (fun n σ=>∃i:Nat,i≤xs.length∧i≤ys.length∧n=xs.length - i∧ordL xs ys=ordL (xs.drop i) (ys.drop i)∧σ=⟨[(0,.one (.ar false 0 1 (xs.map rI))),(1,.one (.ar false 0 1 (ys.map rI))),(9,.one (.ar false 0 1 (xs.map rI))),(10,aI xs.length),(11,aI i)],[]⟩) (xs.length) ⟨0,by simp⟩ ?_
 rintro n σ ⟨i,hi,hi2,rfl,ht,rfl⟩
 by_cases h:i<xs.length
 ·by_cases h2:i<ys.length
  ·rw[f0z h h2] at ht
   have h3: ¬ys.length≤i:=by omega
   simp[h,h2,h3]
   refine z00 (o0w _ _) (by simp) ?_
   by_cases c1:ordI xs[i] ys[i]=0
   ·rw[if_pos c1] at ht
    simp[c1]
    refine⟨xs.length - (i+1),by omega,i+1,by omega,by omega,rfl,ht,?_⟩
    rw[z08 (by omega) (by omega)]
    simp
   ·rw[if_neg c1] at ht
    simp[c1,ht]
  ·rw[h0g (.inr (by omega)) hi hi2,if_neg (by omega),if_pos (by omega)] at ht
   have h3:ys.length≤i:=by omega
   simp[h,h3,ht]
 ·rw[h0g (.inl (by omega)) hi hi2] at ht
  by_cases c1:xs.length<ys.length
  ·rw[if_pos c1] at ht
   simp[h,c1,ht]
  ·rw[if_neg c1,if_neg (by omega)] at ht
   simp[h,c1,ht]
end
section
def j0n:Shelf.Ren:=⟨fun k=>if k=22 then 265 else if k=29 then 293 else 294,fun k=>if k=9 then 74 else if k=24 then 67 else k,fun k=>k⟩
theorem c09:AmL.LIns Tryz.prog j0n 2 where
 mixed:=by kernel_rfl
 f22:=⟨((Tryz.prog.funcs[265]?).map (·.name)).getD "",by kernel_rfl,by kernel_rfl⟩
 ov:=⟨_,Tryz.func293,by kernel_rfl,by kernel_rfl,by kernel_rfl,by kernel_rfl⟩
 t3:=Tryz.underlying3
 a3:=Tryz.isAgg3
 z3:=Tryz.sizeOf3
 t4:=Tryz.underlying4
 a4:=Tryz.isAgg4
 z4:=Tryz.sizeOf4
 z9:=Tryz.sizeOf74
 t24:=Tryz.underlying67
 a24:=Tryz.isAgg67
 z24:=Tryz.sizeOf67
 i9:=by
  obtain⟨i,h1,h2,h3,h4⟩:=info_parts (show (Tryz.prog.info? 74).map (fun i=>(i.zero,i.size,i.bytes))=some (some (.agg #[.int .i64 0,.slice none 0 0]),2,32) by kernel_rfl)
  exact⟨i,_,h1,h2,h3,by omega,rfl⟩
 he:=by decide
theorem y13 (xs:List TConf) (x:TConf) (i:Nat) (hi:i≤xs.length) (hn:xs.length+1≤4294967296):z06 Tryz.prog 265 [.one (.ar true 74 2 (xs.map z0k)),.one (.int .i64 i),.one (.ar true 74 2 [z0k x])] (.one (.ar true 74 2 ((xs.take i ++ [x] ++ xs.drop i).map z0k))):=by
 have h:=y1e c09 (xs.map z0k) (z0k x) i (by simpa using hi) (by simpa using hn)
 simpa [j0n] using h
end
section
def t18:Shelf.Ren:=⟨fun _=>85,fun k=>if k=9 then 3 else if k=24 then 54 else k,fun k=>k⟩
theorem y1k:AmL.LCl Tryz.prog t18 1 where
 mixed:=by kernel_rfl
 f16:=⟨((Tryz.prog.funcs[85]?).map (·.name)).getD "",by kernel_rfl,by kernel_rfl⟩
 t4:=Tryz.underlying4
 a4:=Tryz.isAgg4
 z4:=Tryz.sizeOf4
 z9:=Tryz.sizeOf3
 t24:=Tryz.underlying54
 a24:=Tryz.isAgg54
 z24:=Tryz.sizeOf54
 i9:=by
  obtain⟨i,h1,h2,h3,h4⟩:=info_parts (show (Tryz.prog.info? 3).map (fun i=>(i.zero,i.size,i.bytes))=some (some (.int .i64 0),1,8) by kernel_rfl)
  exact⟨i,_,h1,h2,h3,by omega,rfl⟩
 he:=by decide
theorem m0h (xs:List Int) (hn:xs.length≤4294967296):z06 Tryz.prog 85 [.one (.ar false 0 1 (xs.map rI))] (.one (.ar true 3 1 (xs.map rI))):=
 r03 y1k (xs.map rI) (by simpa using hn)
end
section
structure TErr where
 kind:Int
 pos:Int
 sym:Int
 deriving DecidableEq,Inhabited
def rErr (a:TErr):List C:=[cI a.kind,cI a.pos,cI a.sym]
def sErr (a:TErr):List C:=[cI a.kind,cI a.pos,cI a.sym]
def zErr:List C:=[cI 0,cI 0,cI 0]
@[simp] theorem rErr_len (a:TErr):(rErr a).length=3:=rfl
@[simp] theorem sErr_len (a:TErr):(sErr a).length=3:=rfl
@[simp] theorem p17 (a:TErr):y04 (rErr a)=sErr a:=by simp[rErr,sErr]
@[simp] theorem p1b (a:TErr):y04 (sErr a)=sErr a:=by simp[sErr]
@[simp] theorem z2n (xs:List TErr):z0i (xs.map rErr)=xs.map sErr:=z0p p17 xs
@[simp] theorem z2r (xs:List TErr):z0i (xs.map sErr)=xs.map sErr:=z0p p1b xs
@[simp] theorem a1l (xs:List TErr):y0c (xs.map rErr)=true:=w0e (fun a=>by simp[rErr]) xs
def wErr (_:TErr):Nat:=0
def lErr (_:TErr):Prop:=True
end
section
structure TSlot where
 sym:Int
 up:Int
 deriving DecidableEq,Inhabited
def w01 (a:TSlot):List C:=[cI a.sym,cI a.up]
def x0v (a:TSlot):List C:=[cI a.sym,cI a.up]
def x1g:List C:=[cI 0,cI 0]
@[simp] theorem z23 (a:TSlot):(w01 a).length=2:=rfl
@[simp] theorem z2j (a:TSlot):(x0v a).length=2:=rfl
@[simp] theorem s15 (a:TSlot):y04 (w01 a)=x0v a:=by simp[w01,x0v]
@[simp] theorem s1b (a:TSlot):y04 (x0v a)=x0v a:=by simp[x0v]
@[simp] theorem g1k (xs:List TSlot):z0i (xs.map w01)=xs.map x0v:=z0p s15 xs
@[simp] theorem g1p (xs:List TSlot):z0i (xs.map x0v)=xs.map x0v:=z0p s1b xs
@[simp] theorem g16 (xs:List TSlot):y0c (xs.map w01)=true:=w0e (fun a=>by simp[w01]) xs
def x0c (_:TSlot):Nat:=0
def t04 (a:TSlot):Prop:=l0 a.sym∧l0 a.up
end
section
structure TNode where
 kind:Int
 sym:Int
 alt:Int
 pos:Int
 kids:List Int
 deriving DecidableEq,Inhabited
def x0m (a:TNode):List C:=[cI a.kind,cI a.sym,cI a.alt,cI a.pos,.ar true 3 1 (a.kids.map rI)]
def x0g (a:TNode):List C:=[cI a.kind,cI a.sym,cI a.alt,cI a.pos,.ar false 0 1 (a.kids.map rI)]
def x1f:List C:=[cI 0,cI 0,cI 0,cI 0,.ar true 3 1 []]
@[simp] theorem z21 (a:TNode):(x0m a).length=5:=rfl
@[simp] theorem z2i (a:TNode):(x0g a).length=5:=rfl
@[simp] theorem s14 (a:TNode):y04 (x0m a)=x0g a:=by simp[x0m,x0g]
@[simp] theorem s1a (a:TNode):y04 (x0g a)=x0g a:=by simp[x0g]
@[simp] theorem g1j (xs:List TNode):z0i (xs.map x0m)=xs.map x0g:=z0p s14 xs
@[simp] theorem g1o (xs:List TNode):z0i (xs.map x0g)=xs.map x0g:=z0p s1a xs
@[simp] theorem g15 (xs:List TNode):y0c (xs.map x0m)=true:=w0e (fun a=>by simp[x0m]) xs
def y0m (a:TNode):Nat:=wL w0 a.kids
def y1h (a:TNode):Prop:=lL l0 a.kids
end
section
structure TTree where
 nodes:List TNode
 deriving DecidableEq,Inhabited
def s0w (a:TTree):List C:=[.ar true 282 5 (a.nodes.map x0m)]
def u0v (a:TTree):List C:=[.ar false 0 5 (a.nodes.map x0g)]
@[simp] theorem z25 (a:TTree):(s0w a).length=1:=rfl
@[simp] theorem z2k (a:TTree):(u0v a).length=1:=rfl
@[simp] theorem s16 (a:TTree):y04 (s0w a)=u0v a:=by simp[s0w,u0v]
@[simp] theorem s1c (a:TTree):y04 (u0v a)=u0v a:=by simp[u0v]
@[simp] theorem g1l (xs:List TTree):z0i (xs.map s0w)=xs.map u0v:=z0p s16 xs
@[simp] theorem g1q (xs:List TTree):z0i (xs.map u0v)=xs.map u0v:=z0p s1c xs
@[simp] theorem g17 (xs:List TTree):y0c (xs.map s0w)=true:=w0e (fun a=>by simp[s0w]) xs
def x0q (a:TTree):Nat:=wL y0m a.nodes
def q1k (a:TTree):Prop:=lL y1h a.nodes
end
section
structure TRun where
 code:Int
 pos:Int
 look:Int
 cost:Int
 slots:List TSlot
 tree:TTree
 errs:List TErr
 deriving DecidableEq,Inhabited
def rRun (a:TRun):List C:=[cI a.code,cI a.pos,cI a.look,cI a.cost,.ar true 203 2 (a.slots.map w01),.ar true 282 5 (a.tree.nodes.map x0m),.ar true 222 3 (a.errs.map rErr)]
def sRun (a:TRun):List C:=[cI a.code,cI a.pos,cI a.look,cI a.cost,.ar false 0 2 (a.slots.map x0v),.ar false 0 5 (a.tree.nodes.map x0g),.ar false 0 3 (a.errs.map sErr)]
@[simp] theorem rRun_len (a:TRun):(rRun a).length=7:=rfl
@[simp] theorem sRun_len (a:TRun):(sRun a).length=7:=rfl
@[simp] theorem p1a (a:TRun):y04 (rRun a)=sRun a:=by simp[rRun,sRun]
@[simp] theorem p1e (a:TRun):y04 (sRun a)=sRun a:=by simp[sRun]
@[simp] theorem z2q (xs:List TRun):z0i (xs.map rRun)=xs.map sRun:=z0p p1a xs
@[simp] theorem z2u (xs:List TRun):z0i (xs.map sRun)=xs.map sRun:=z0p p1e xs
@[simp] theorem u1k (xs:List TRun):y0c (xs.map rRun)=true:=w0e (fun a=>by simp[rRun]) xs
def wRun (a:TRun):Nat:=wL x0c a.slots+x0q a.tree+wL wErr a.errs
def lRun (a:TRun):Prop:=lL t04 a.slots∧q1k a.tree∧lL lErr a.errs∧l0 a.look
end
section
def b1k:K:=dc 0x41090490400810031042012000020401c21c614d106040140003040004039041040
def i17:Nat×List RV:=(10,[.t 4])
theorem c_275:z01 PA 275 i17 b1k:=by unfold z01; kernel_rfl
theorem d0z (a b:Int):z06 Tryz.prog 275 [aI a,aI b] (aI (min a b)):=by
 refine Prun c_275 (by simp[i17]) (by simp) ?_
 (conv in b1k=>reduce); unfold i17
 by_cases h:a<b
 ·simp[h,show min a b=a by omega]
 ·simp[h,show min a b=b by omega]
def k_44:K:=dc 0x41090490400810031042012000020401c21c614f106040140003040004039041040
def r_44:Nat×List RV:=(10,[.t 4])
theorem c_44:z01 PA 44 r_44 k_44:=by unfold z01; kernel_rfl
theorem i0y (a b:Int):z06 Tryz.prog 44 [aI a,aI b] (aI (max a b)):=by
 refine Prun c_44 (by simp[r_44]) (by simp) ?_
 (conv in k_44=>reduce); unfold r_44
 by_cases h:b<a
 ·simp[h,show max a b=a by omega]
 ·simp[h,show max a b=b by omega]
end
section
def y1v:Shelf.Ren:=⟨fun _=>171,fun k=>if k=9 then 203 else if k=24 then 55 else k,fun k=>k⟩
theorem c08:AmL.LCl Tryz.prog y1v 2 where
 mixed:=by kernel_rfl
 f16:=⟨((Tryz.prog.funcs[171]?).map (·.name)).getD "",by kernel_rfl,by kernel_rfl⟩
 t4:=Tryz.underlying4
 a4:=Tryz.isAgg4
 z4:=Tryz.sizeOf4
 z9:=Tryz.sizeOf203
 t24:=Tryz.underlying55
 a24:=Tryz.isAgg55
 z24:=Tryz.sizeOf55
 i9:=by
  obtain⟨i,h1,h2,h3,h4⟩:=info_parts (show (Tryz.prog.info? 203).map (fun i=>(i.zero,i.size,i.bytes))=some (some (.agg #[.int .i64 0,.int .i64 0]),2,16) by kernel_rfl)
  exact⟨i,_,h1,h2,h3,by omega,rfl⟩
 he:=by decide
theorem g0s (xs:List TSlot) (hn:xs.length≤4294967296):z06 Tryz.prog 171 [.one (.ar false 0 2 (xs.map w01))] (.one (.ar true 203 2 (xs.map w01))):=
 r03 c08 (xs.map w01) (by simpa using hn)
end
section
def t17:Shelf.Ren:=⟨fun _=>173,fun k=>if k=9 then 222 else if k=24 then 59 else k,fun k=>k⟩
theorem y1j:AmL.LCl Tryz.prog t17 3 where
 mixed:=by kernel_rfl
 f16:=⟨((Tryz.prog.funcs[173]?).map (·.name)).getD "",by kernel_rfl,by kernel_rfl⟩
 t4:=Tryz.underlying4
 a4:=Tryz.isAgg4
 z4:=Tryz.sizeOf4
 z9:=Tryz.sizeOf222
 t24:=Tryz.underlying59
 a24:=Tryz.isAgg59
 z24:=Tryz.sizeOf59
 i9:=by
  obtain⟨i,h1,h2,h3,h4⟩:=info_parts (show (Tryz.prog.info? 222).map (fun i=>(i.zero,i.size,i.bytes))=some (some (.agg #[.int .i64 0,.int .i64 0,.int .i64 0]),3,24) by kernel_rfl)
  exact⟨i,_,h1,h2,h3,by omega,rfl⟩
 he:=by decide
theorem d0u (xs:List TErr) (hn:xs.length≤4294967296):z06 Tryz.prog 173 [.one (.ar false 0 3 (xs.map rErr))] (.one (.ar true 222 3 (xs.map rErr))):=
 r03 y1j (xs.map rErr) (by simpa using hn)
end
section
structure TOutcome where
 ticket:Int
 code:Int
 text:ByteArray
 deriving DecidableEq,Inhabited
def x0s (a:TOutcome):List C:=[cI a.ticket,cI a.code,.str a.text]
def z0u (a:TOutcome):List C:=[cI a.ticket,cI a.code,.str a.text]
def q02:List C:=[cI 0,cI 0,.str ⟨#[]⟩]
@[simp] theorem o18 (a:TOutcome):(x0s a).length=3:=rfl
@[simp] theorem o1b (a:TOutcome):(z0u a).length=3:=rfl
@[simp] theorem e0k (a:TOutcome):y04 (x0s a)=z0u a:=by simp[x0s,z0u]
@[simp] theorem e0l (a:TOutcome):y04 (z0u a)=z0u a:=by simp[z0u]
@[simp] theorem p1f (xs:List TOutcome):z0i (xs.map x0s)=xs.map z0u:=z0p e0k xs
@[simp] theorem p1g (xs:List TOutcome):z0i (xs.map z0u)=xs.map z0u:=z0p e0l xs
@[simp] theorem q1u (xs:List TOutcome):y0c (xs.map x0s)=true:=w0e (fun a=>by simp[x0s]) xs
def y06 (a:TOutcome):Nat:=a.text.size
def r0t (a:TOutcome):Prop:=a.text.size<2 ^ 63
end
section
structure TLine where
 frm:List TConf
 letter:Int
 too:List TConf
 deriving DecidableEq,Inhabited
def q0v (a:TLine):List C:=[.ar true 74 2 (a.frm.map u0t),cI a.letter,.ar true 74 2 (a.too.map u0t)]
def y0x (a:TLine):List C:=[.ar false 0 2 (a.frm.map z0k),cI a.letter,.ar false 0 2 (a.too.map z0k)]
def x1e:List C:=[.ar true 74 2 [],cI 0,.ar true 74 2 []]
@[simp] theorem a1z (a:TLine):(q0v a).length=3:=rfl
@[simp] theorem z2h (a:TLine):(y0x a).length=3:=rfl
@[simp] theorem s13 (a:TLine):y04 (q0v a)=y0x a:=by simp[q0v,y0x]
@[simp] theorem s19 (a:TLine):y04 (y0x a)=y0x a:=by simp[y0x]
@[simp] theorem g1i (xs:List TLine):z0i (xs.map q0v)=xs.map y0x:=z0p s13 xs
@[simp] theorem x18 (xs:List TLine):z0i (xs.map y0x)=xs.map y0x:=z0p s19 xs
@[simp] theorem g14 (xs:List TLine):y0c (xs.map q0v)=true:=w0e (fun a=>by simp[q0v]) xs
def x08 (a:TLine):Nat:=wL y0f a.frm+wL y0f a.too
def y1g (a:TLine):Prop:=lL f0j a.frm∧lL f0j a.too
end
section
structure TStore where
 cap:Int
 lines:List TLine
 deriving DecidableEq,Inhabited
def t06 (a:TStore):List C:=[cI a.cap,.ar true 261 3 (a.lines.map q0v)]
def y0h (a:TStore):List C:=[cI a.cap,.ar false 0 3 (a.lines.map y0x)]
def i04:List C:=[cI 0,.ar true 261 3 []]
@[simp] theorem g19 (a:TStore):(t06 a).length=2:=rfl
@[simp] theorem g1f (a:TStore):(y0h a).length=2:=rfl
@[simp] theorem x15 (a:TStore):y04 (t06 a)=y0h a:=by simp[t06,y0h]
@[simp] theorem x17 (a:TStore):y04 (y0h a)=y0h a:=by simp[y0h]
@[simp] theorem h1j (xs:List TStore):z0i (xs.map t06)=xs.map y0h:=z0p x15 xs
@[simp] theorem h1l (xs:List TStore):z0i (xs.map y0h)=xs.map y0h:=z0p x17 xs
@[simp] theorem m17 (xs:List TStore):y0c (xs.map t06)=true:=w0e (fun a=>by simp[t06]) xs
def y0k (a:TStore):Nat:=wL x08 a.lines
def p0l (a:TStore):Prop:=lL y1g a.lines
end
section
def c1b:K:=dc 0x104ec1041005401402e4f0043c5003043104e8104101a09a6496585024eb1585c00425d65411d61405410144c00424d24411d214044000a28020004500018338238d2cd10d30330000b1401010000371410041410031c0145039041040003104e8104100a08a2473042480c80401c60c600014100013a041040
def k1y:Nat×List RV:=(27,[.t 4])
theorem c_213:z01 PA 213 k1y c1b:=by unfold z01; kernel_rfl
theorem v12 (xs:List (List Int)) (hx:wL (wL w0) xs<2 ^ 40):z06 Tryz.prog 213 [.one (.ar false 0 1 (xs.map sIS)),.one (.ar false 0 1 (xs.map sIS))] (aB true):=by
 refine Prun c_213 (by simp[k1y]) (by simp) ?_
 (conv in c1b=>reduce); unfold k1y
 have hlen:=z0a (wL w0) xs
 simp
 refine z04 (fun n σ=>∃i:Nat,i≤xs.length∧n=xs.length - i∧σ=⟨[(0,.one (.ar false 0 1 (xs.map sIS))),(1,.one (.ar false 0 1 (xs.map sIS))),(5,aI i)],[]⟩) (xs.length) ⟨0,by simp⟩ ?_
 rintro n σ ⟨i,hi,rfl,rfl⟩
 by_cases h:i<xs.length
 ·have hw:=z0x (wL w0) xs i h
  simp[h,sIS]
  refine⟨_,by simp,n0o xs[i] (by omega),?_⟩
  simp
  refine⟨xs.length - (i+1),by omega,i+1,by omega,rfl,?_⟩
  rw[z08 (by omega) (by omega)]
  simp
 ·simp[h]
end
section
def a17:K:=dc 0x104ec1041003104e810410130934903044910010910c21903c00423c20861410000c413a04104038238d2cc10d3000423030462ca00108a081185040003104e810410090892063042070010870c018614004214200614100013a043043daa202003daa203040
def i1u:Nat×List RV:=(20,[.t 4])
theorem c_305:z01 PA 305 i1u a17:=by unfold z01; kernel_rfl
theorem n1h (a:TErr) (ha:wErr a<2 ^ 40):z06 Tryz.prog 305 [.agg (sErr a),.agg (sErr a)] (aB true):=by
 refine Prun c_305 (by simp[i1u]) (by simp) ?_
 (conv in a17=>reduce); unfold i1u
 simp only[wErr] at ha
 simp[sErr]
end
section
def a15:K:=dc 0x413b0410400c413a04104038238d2cc10d3000423030462ca00108a081185040003104e810410090892063042070010870c018614004214200614100013a0430428ea2020028ea203040
def i1s:Nat×List RV:=(15,[.t 4])
theorem c_303:z01 PA 303 i1s a15:=by unfold z01; kernel_rfl
theorem r1t (a:TSlot) (ha:x0c a<2 ^ 40):z06 Tryz.prog 303 [.agg (x0v a),.agg (x0v a)] (aB true):=by
 refine Prun c_303 (by simp[i1s]) (by simp) ?_
 (conv in a15=>reduce); unfold i1s
 simp only[x0c] at ha
 simp[x0v]
end
section
def a1d:K:=dc 0x413b0410400c413a04104078279d25d71a093ac571b00109b0c419a6400426421061810000c413a04104060261754c1175800425830c6554001094083185040003104e810410130934903044910010910c21903c00423c20861410000c413a04104038238d2cc10d3000423030462ca00108a081185040003104e810410090892063042070010870c018614004214200614100013a043045cab202005cab203040
def h10:Nat×List RV:=(31,[.t 4])
theorem c_315:z01 PA 315 h10 a1d:=by unfold z01; kernel_rfl
theorem r1s (a:TNode) (ha:y0m a<2 ^ 40):z06 Tryz.prog 315 [.agg (x0g a),.agg (x0g a)] (aB true):=by
 refine Prun c_315 (by simp[h10]) (by simp) ?_
 (conv in a1d=>reduce); unfold h10
 simp only[y0m] at ha
 simp[x0g]
 refine z00 (n0o a.kids (by omega)) (by simp) ?_
 simp
end
section
def c1n:K:=dc 0x410b04b040081003104079041040282280e49344241002040001201207141107183180005040141004039041040
def j19:Nat×List RV:=(12,[.t 4])
theorem c_231:z01 PA 231 j19 c1n:=by unfold z01; kernel_rfl
theorem n0q (xs:List Int) (left:Int) (h:lL l0 xs) (h2:0≤left) (h3:left<2 ^ 40):z06 Tryz.prog 231 [.one (.ar false 0 1 (xs.map rI)),aI left] (aI (lft left (wL w0 xs))):=by
 refine Prun c_231 (by simp[j19]) (by simp) ?_
 (conv in c1n=>reduce); unfold j19
 have h:=h.1
 rw[v09,lft]
 have hw:IntKind.i64.wrap (left - xs.length)=left - xs.length:=z08 (by omega) (by omega)
 by_cases h:left - xs.length<0
 ·simp[hw,h]
 ·simp[hw,h]
end
section
def b1g:K:=dc 0x410b04b040081003104079041040282280e49344241002040001201207141107183180005040141004039041040
def i12:Nat×List RV:=(12,[.t 4])
theorem c_271:z01 PA 271 i12 b1g:=by unfold z01; kernel_rfl
theorem s1q: ∀xs:List TErr,wL wErr xs=xs.length
 | []=>rfl
 | x :: xs=>by rw[wL,s1q xs,List.length_cons]; simp only[wErr]; omega
theorem q13 (xs:List TErr) (left:Int) (h:lL lErr xs) (h2:0≤left) (h3:left<2 ^ 40):z06 Tryz.prog 271 [.one (.ar false 0 3 (xs.map sErr)),aI left] (aI (lft left (wL wErr xs))):=by
 refine Prun c_271 (by simp[i12]) (by simp) ?_
 (conv in b1g=>reduce); unfold i12
 have h:=h.1
 rw[s1q,lft]
 have hw:IntKind.i64.wrap (left - xs.length)=left - xs.length:=z08 (by omega) (by omega)
 by_cases h:left - xs.length<0
 ·simp[hw,h]
 ·simp[hw,h]
end
section
def b1e:K:=dc 0x410b04b040081003104079041040282280e49344241002040001201207141107183180005040141004039041040
def i10:Nat×List RV:=(12,[.t 4])
theorem c_269:z01 PA 269 i10 b1e:=by unfold z01; kernel_rfl
theorem z1f: ∀xs:List TSlot,wL x0c xs=xs.length
 | []=>rfl
 | x :: xs=>by rw[wL,z1f xs,List.length_cons]; simp only[x0c]; omega
theorem v1o (xs:List TSlot) (left:Int) (h:lL t04 xs) (h2:0≤left) (h3:left<2 ^ 40):z06 Tryz.prog 269 [.one (.ar false 0 2 (xs.map x0v)),aI left] (aI (lft left (wL x0c xs))):=by
 refine Prun c_269 (by simp[i10]) (by simp) ?_
 (conv in b1e=>reduce); unfold i10
 have h:=h.1
 rw[z1f,lft]
 have hw:IntKind.i64.wrap (left - xs.length)=left - xs.length:=z08 (by omega) (by omega)
 by_cases h:left - xs.length<0
 ·simp[hw,h]
 ·simp[hw,h]
end
section
def a18:K:=dc 0x1042c12c10020400c4101e4104100a08a03924d1090400810000480481c60bfa851c100614004214210614100403904200532d202040
def i1v:Nat×List RV:=(12,[.t 4])
theorem c_310:z01 PA 310 i1v a18:=by unfold z01; kernel_rfl
theorem q17 (a:TNode) (left:Int) (h:y1h a) (h2:0≤left) (h3:left<2 ^ 40):z06 Tryz.prog 310 [.agg (x0g a),aI left] (aI (lft left (y0m a))):=by
 refine Prun c_310 (by simp[i1v]) (by simp) ?_
 (conv in a18=>reduce); unfold i1v
 simp only[y1h] at h
 simp only[y0m]
 have hl0:=h
 simp[x0g]
 refine z00 (n0q a.kids (left) hl0 (by omega) (by omega)) (by simp) ?_
 by_cases g0:left<(wL w0 a.kids:Int)
 case pos=>simp only[z0j g0]; simp; try rw[z0j (by omega)]
 simp only[z0w (show (wL w0 a.kids:Int)≤left by omega)]
 have n0: ¬left - (wL w0 a.kids:Int)<0:=by omega
 simp[n0]
 try rw[z0w (by omega)]
 try omega
end
section
def c14:K:=dc 0x10258158300204010d04d0b930010c1000c15150012fc54f3811d44c122b1534800424914011d110040000f1003830090411400060cb08b2883442890c9000204004040000dc40c01040c00c7005100e410410000c704718604304305804ea251850c500010100204ea010fc041040
def k1r:Nat×List RV:=(23,[.t 2])
theorem c_206:z01 PA 206 k1r c14:=by unfold z01; kernel_rfl
theorem v1s (xs:List (List Int)) (hx:wL (wL w0) xs<2 ^ 31):z06 Tryz.prog 206 [.one (.ar false 0 1 (xs.map sIS))] (.one (.ar true 54 1 (xs.map rIS))):=by
 refine Prun c_206 (by simp[k1r]) (by simp) ?_
 (conv in c14=>reduce); unfold k1r
 have hlen:=z0a (wL w0) xs
 have hc:((xs.length:Int)≤4294967296):=by omega
 simp[hc]
 refine z04 (fun n σ=>∃i:Nat,i≤xs.length∧n=xs.length - i∧σ=⟨[(0,.one (.ar false 0 1 (xs.map sIS))),(3,.one (.vw 54 1 3 [] 0 xs.length)),(4,aI i)],[(3,⟨54,1,part rIS zIS xs i⟩)]⟩) (xs.length) ⟨0,by simp[x0t,zIS]⟩ ?_
 rintro n σ ⟨i,hi,rfl,rfl⟩
 by_cases h:i<xs.length
 ·have hw:=z0x (wL w0) xs i h
  have:=w0p (r:=rIS) (z:=zIS) h
  simp[h,sIS]
  refine z00 (n0r xs[i] (by omega)) (by simp) ?_
  simp[h,w0o h,rIS,zIS]
  refine⟨xs.length - (i+1),by omega,i+1,by omega,rfl,?_⟩
  rw[z08 (by omega) (by omega)]
  simp only[rIS,zIS] at this
  simp[rIS,zIS,this]
 ·have:i=xs.length:=by omega
  subst this
  simp[w0n]
end
section
def a14:K:=dc 0x43420032fc3430430820402cc0012fc3030862ca00108a0421840402090012fc2430462070010870411840401460012fc1830061440010840401840400c00000000000000c3daa4810400800000000000000c3daa48100316d202040
def i1r:Nat×List RV:=(14,[.c 2 3 true])
theorem c_302:z01 PA 302 i1r a14:=by unfold z01; kernel_rfl
theorem n1r (a:TErr) (ha:wErr a<2 ^ 31):z06 Tryz.prog 302 [.agg (sErr a)] (.agg (rErr a)):=by
 refine Prun c_302 (by simp[i1r]) (by simp) ?_
 (conv in a14=>reduce); unfold i1r
 simp only[wErr] at ha
 simp[sErr,rErr]
end
section
def b1p:K:=dc 0x40960560c0081004341342e4c0043040030545400cbf153ce0c7513046b054d20430924500c74440100003c400e0c02410450001832c22ca20d10a2432400081001010000371030041030031c01440390410400031c11c61800000000000000d80f6aa51850c50001010020f6a810fc041040
def i1c:Nat×List RV:=(23,[.t 2])
theorem c_280:z01 PA 280 i1c b1p:=by unfold z01; kernel_rfl
theorem q1a (xs:List TErr) (hx:wL wErr xs<2 ^ 31):z06 Tryz.prog 280 [.one (.ar false 0 3 (xs.map sErr))] (.one (.ar true 222 3 (xs.map rErr))):=by
 refine Prun c_280 (by simp[i1c]) (by simp) ?_
 (conv in b1p=>reduce); unfold i1c
 have hlen:=z0a wErr xs
 have hc:((xs.length:Int)≤4294967296):=by omega
 simp[hc]
 refine z04 (fun n σ=>∃i:Nat,i≤xs.length∧n=xs.length - i∧σ=⟨[(0,.one (.ar false 0 3 (xs.map sErr))),(3,.one (.vw 222 3 3 [] 0 xs.length)),(4,aI i)],[(3,⟨222,3,part rErr zErr xs i⟩)]⟩) (xs.length) ⟨0,by simp[x0t,zErr]⟩ ?_
 rintro n σ ⟨i,hi,rfl,rfl⟩
 by_cases h:i<xs.length
 ·have hw:=z0x wErr xs i h
  have:=w0p (r:=rErr) (z:=zErr) h
  simp[h,sErr]
  refine z00 (n1r xs[i] (by omega)) (by simp) ?_
  simp[h,w0o h,rErr,zErr]
  refine⟨xs.length - (i+1),by omega,i+1,by omega,rfl,?_⟩
  rw[z08 (by omega) (by omega)]
  simp only[rErr,zErr] at this
  simp[rErr,zErr,this]
 ·have:i=xs.length:=by omega
  subst this
  simp[w0n]
end
section
def a12:K:=dc 0x42820022fc2830420820402090012fc2430462070010870411840401460012fc1830061440010840401840400c00000000020a3a920410020000000000828ea4810020ad202040
def i1p:Nat×List RV:=(11,[.c 2 2 true])
theorem c_300:z01 PA 300 i1p a12:=by unfold z01; kernel_rfl
theorem q1f (a:TSlot) (ha:x0c a<2 ^ 31):z06 Tryz.prog 300 [.agg (x0v a)] (.agg (w01 a)):=by
 refine Prun c_300 (by simp[i1p]) (by simp) ?_
 (conv in a12=>reduce); unfold i1p
 simp only[x0c] at ha
 simp[x0v,w01]
end
section
def b1n:K:=dc 0x10258158300204010d04d0b930010c1000c15150022fc54f3821d44c112c1534810824914021d110040000f1003830090411400060cb08b2883442890c9000204004040000dc40c01040c00c7005100e410410000c70471860000000000900a3aa51850c50001010020a3a810fc041040
def i1a:Nat×List RV:=(23,[.t 2])
theorem c_278:z01 PA 278 i1a b1n:=by unfold z01; kernel_rfl
theorem v1v (xs:List TSlot) (hx:wL x0c xs<2 ^ 31):z06 Tryz.prog 278 [.one (.ar false 0 2 (xs.map x0v))] (.one (.ar true 203 2 (xs.map w01))):=by
 refine Prun c_278 (by simp[i1a]) (by simp) ?_
 (conv in b1n=>reduce); unfold i1a
 have hlen:=z0a x0c xs
 have hc:((xs.length:Int)≤4294967296):=by omega
 simp[hc]
 refine z04 (fun n σ=>∃i:Nat,i≤xs.length∧n=xs.length - i∧σ=⟨[(0,.one (.ar false 0 2 (xs.map x0v))),(3,.one (.vw 203 2 3 [] 0 xs.length)),(4,aI i)],[(3,⟨203,2,part w01 x1g xs i⟩)]⟩) (xs.length) ⟨0,by simp[x0t,x1g]⟩ ?_
 rintro n σ ⟨i,hi,rfl,rfl⟩
 by_cases h:i<xs.length
 ·have hw:=z0x x0c xs i h
  have:=w0p (r:=w01) (z:=x1g) h
  simp[h,x0v]
  refine z00 (q1f xs[i] (by omega)) (by simp) ?_
  simp[h,w0o h,w01,x1g]
  refine⟨xs.length - (i+1),by omega,i+1,by omega,rfl,?_⟩
  rw[z08 (by omega) (by omega)]
  simp only[w01,x1g] at this
  simp[w01,x1g,this]
 ·have:i=xs.length:=by omega
  subst this
  simp[w0n]
end
section
def a1c:K:=dc 0x45020052fc5030450820404930012fc4c3106491048ac545000109004418504038f0012fc3c30c638d00108d0431840402cc0012fc3030862ca00108a0421840402090012fc2430462070010870411840401460012fc1830061440010840401840400c10c10c0000000000000000005172ad2041002043043000000000000000000145cab48100532d202040
def i1z:Nat×List RV:=(21,[.c 2 5 true])
theorem c_314:z01 PA 314 i1z a1c:=by unfold z01; kernel_rfl
theorem q1e (a:TNode) (ha:y0m a<2 ^ 31):z06 Tryz.prog 314 [.agg (x0g a)] (.agg (x0m a)):=by
 refine Prun c_314 (by simp[i1z]) (by simp) ?_
 (conv in a1c=>reduce); unfold i1z
 simp only[y0m] at ha
 simp[x0g]
 refine z00 (n0r a.kids (by omega)) (by simp) ?_
 simp[x0m]
end
section
def z14:List Sh:=[.i,.l 1 [.i]]
theorem u1n (x:List C) (h:y0v z14 x): ∃a:TConf,x=z0k a∧f0j a:=by
 simp only[z14,y0v] at h
 obtain⟨c0,r0,rfl,h0,c1,r1,rfl,h1,rfl⟩:=h
 simp only[inSh] at h0
 obtain⟨n0,rfl,v0⟩:=h0
 obtain⟨n1,rfl,g1⟩:=r07 a0b c1 h1
 refine⟨⟨n0,n1⟩,rfl,?_⟩
 simp only[f0j]
 exact g1
end
section
def t1y:List Sh:=[.l 2 z14,.i,.l 2 z14]
theorem m19 (x:List C) (h:y0v t1y x): ∃a:TLine,x=y0x a∧y1g a:=by
 simp only[t1y,y0v] at h
 obtain⟨c0,r0,rfl,h0,c1,r1,rfl,h1,c2,r2,rfl,h2,rfl⟩:=h
 obtain⟨n0,rfl,g0⟩:=r07 u1n c0 h0
 simp only[inSh] at h1
 obtain⟨n1,rfl,v1⟩:=h1
 obtain⟨n2,rfl,g2⟩:=r07 u1n c2 h2
 refine⟨⟨n0,n1,n2⟩,rfl,?_⟩
 simp only[y1g]
 exact⟨g0,g2⟩
end
section
def h1e:List Sh:=[.i,.i,.i]
theorem a1p (x:List C) (h:y0v h1e x): ∃a:TErr,x=sErr a∧lErr a:=by
 simp only[h1e,y0v] at h
 obtain⟨c0,r0,rfl,h0,c1,r1,rfl,h1,c2,r2,rfl,h2,rfl⟩:=h
 simp only[inSh] at h0
 obtain⟨n0,rfl,v0⟩:=h0
 simp only[inSh] at h1
 obtain⟨n1,rfl,v1⟩:=h1
 simp only[inSh] at h2
 obtain⟨n2,rfl,v2⟩:=h2
 refine⟨⟨n0,n1,n2⟩,rfl,?_⟩
 simp only[lErr]
end
section
def t1z:List Sh:=[.i,.i,.i,.i,.l 1 [.i]]
theorem m1a (x:List C) (h:y0v t1z x): ∃a:TNode,x=x0g a∧y1h a:=by
 simp only[t1z,y0v] at h
 obtain⟨c0,r0,rfl,h0,c1,r1,rfl,h1,c2,r2,rfl,h2,c3,r3,rfl,h3,c4,r4,rfl,h4,rfl⟩:=h
 simp only[inSh] at h0
 obtain⟨n0,rfl,v0⟩:=h0
 simp only[inSh] at h1
 obtain⟨n1,rfl,v1⟩:=h1
 simp only[inSh] at h2
 obtain⟨n2,rfl,v2⟩:=h2
 simp only[inSh] at h3
 obtain⟨n3,rfl,v3⟩:=h3
 obtain⟨n4,rfl,g4⟩:=r07 a0b c4 h4
 refine⟨⟨n0,n1,n2,n3,n4⟩,rfl,?_⟩
 simp only[y1h]
 exact g4
end
section
def s10:List Sh:=[.i,.i]
theorem m1b (x:List C) (h:y0v s10 x): ∃a:TSlot,x=x0v a∧t04 a:=by
 simp only[s10,y0v] at h
 obtain⟨c0,r0,rfl,h0,c1,r1,rfl,h1,rfl⟩:=h
 simp only[inSh] at h0
 obtain⟨n0,rfl,v0⟩:=h0
 simp only[inSh] at h1
 obtain⟨n1,rfl,v1⟩:=h1
 refine⟨⟨n0,n1⟩,rfl,?_⟩
 exact⟨v0,v1⟩
end
section
def l0v:List Sh:=[.i,.i,.s]
theorem y1p (x:List C) (h:y0v l0v x): ∃a:TOutcome,x=z0u a∧r0t a:=by
 simp only[l0v,y0v] at h
 obtain⟨c0,r0,rfl,h0,c1,r1,rfl,h1,c2,r2,rfl,h2,rfl⟩:=h
 simp only[inSh] at h0
 obtain⟨n0,rfl,v0⟩:=h0
 simp only[inSh] at h1
 obtain⟨n1,rfl,v1⟩:=h1
 simp only[inSh] at h2
 obtain⟨n2,rfl,g2⟩:=h2
 refine⟨⟨n0,n1,n2⟩,rfl,?_⟩
 simp only[r0t]
 exact g2
end
end Go.Am
