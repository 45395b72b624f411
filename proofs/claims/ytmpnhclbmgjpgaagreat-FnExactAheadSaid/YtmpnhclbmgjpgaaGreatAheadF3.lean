/- FRAMEWORK, text 3: operations that lay, write and lend. Proved once, for every program; no condition. -/
import Derived.Test.YtmpnhclbmgjpgaaGreatAheadF2
import Derived.Maps.AppendAt
set_option linter.unusedVariables false
set_option linter.unusedSimpArgs false
namespace Go.Am
def x1l (P:Program) (t:Nat) (pl:Nat→Option (Nat×Nat)):Prop:=
 (∃fs ps,P.underlying t=some (.struct fs)∧fs.toList.mapM (fun f=>(P.info? f.type).map fun i=>(f.offset,i.size))=some ps∧∀i,pl i=ps.toArray[i]?)∨
 (∃n el e,P.underlying t=some (.array n el)∧s00 P el e∧∀i,pl i=some (i*e,e))
def PL (pl:Nat→Option (Nat×Nat)):List (Nat×Nat×X)→List (Nat×Operand)→Prop
 | [],[]=>True
 | (off,n,x) :: xs,(i,o) :: os=>pl i=some (off,n)∧XOf x o∧PL pl xs os
 | _,_=>False
inductive IsM (P:Program):Op→I→Prop
 | asn {x o}:XOf x o→IsM P (.assign o) (.asn x)
 | asf {x o}:XOf x o→IsM P (.assign o) (.asf x)
 | box {t e x o}:XOf x o→IsM P (.box (tyOf t) o) (.box t e x)
 | boxs {t e x o}:XOf x o→IsM P (.box t o) (.boxs e x)
 | alc {t e z i zv}:P.info? (tyOf t)=some i→i.zero=some zv→z.length=e→(∀(w:World) (N:Nat→Prop),z0d w N z zv.cells.toList fz)→IsM P (.alloc (tyOf t)) (.alc t e z)
 | st {t n fzm p v p' v'}:XOf p' p→XOf v' v→s00 P t n→IsM P (.store t p v) (.st n fzm p' v')
 | bld {t fzm z ps ps' i zv pl}:P.info? t=some i→i.zero=some zv→(∀(w:World) (N:Nat→Prop),z0d w N z zv.cells.toList fz)→x1l P t pl→PL pl ps' ps→IsM P (.build t ps.toArray) (.bld fzm z ps')
 | bls {t el e fzm os xs i zv}:P.underlying t=some (.slice el)→P.info? el=some i→i.zero=some zv→i.size=e→zv.cells.size=e→os.length≤4096→e≤4096→XL xs os→
    IsM P (.buildSlice t os.length (os.zipIdx.map fun (o,i)=>(i,o)).toArray) (.bls el e fzm xs)
 | mks {t el e by_ z l c l' c' i zv}:XOf l' l→XOf c' c→P.underlying t=some (.slice el)→P.info? el=some i→i.zero=some zv→i.size=e→i.bytes=by_→by_≤16384→z.length=e→0<e→
    (∀(w:World) (N:Nat→Prop),z0d w N z zv.cells.toList fz)→IsM P (.makeSlice t l c) (.mks el e by_ z l' c')
 | app {t el e by_ fzm s x s' x' i zv}:XOf s' s→XOf x' x→P.underlying t=some (.slice el)→P.info? el=some i→i.zero=some zv→i.size=e→i.bytes=by_→by_≤16384→zv.cells.size=e→0<e→
    IsM P (.call { callee:= .builtin .append,args:=#[s,x],argTypes:=#[t,t] }) (.app el e by_ fzm s' x')
section
variable {P:Program} {w:World} {N:Nat→Prop} {lc:Loc} {tmps:Array Value} {ds:List Deferred} {F G:Fp} {σ σ1:St}
def MOk (P:Program) (w:World) (N:Nat→Prop) (lc:Loc) (tmps:Array Value) (ds:List Deferred) (F:Fp) (o:Oper) (σ1:St):Prop:=
 ∃r v w' N' lc' F',(execOp (Act.mk tmps ds).eval o).run P w = .ok r w'∧(r = .value v∨(r = .skip∧v=undef))∧Base w' N' F'∧
  Hold w' N' lc' σ1 ((Act.mk tmps ds).put o.dst v).tmps F' fz∧Fr w F N lc w' F' N' lc'
theorem f12 {o:Oper} {x:X} {x0:Operand} {d:Nat} (ho:o.op = .assign x0) (hdst:o.dst=some d) (hx:XOf x x0) (hd:d<tmps.size) (hd2:d<1000) {a:A} (h:e0t σ x=some (a,σ1))
 (hB:Base w N F) (hh:Hold w N lc σ tmps F fz):MOk P w N lc tmps ds F o (c0e d a σ1):=by
 unfold e0t at h
 cases ht:v06 σ x with
 | none=>rw[ht] at h; simp at h
 | some y=>
   obtain⟨a0,σ0⟩:=y
   rw[ht] at h
   simp only at h
   obtain⟨G1,hr,hH,_,hna⟩:=y0w (ds:=ds) hx ht hh
   have hg: ∃G2,repA w N lc a ((Act.mk tmps ds).eval x0) G2∧Hold w N lc σ1 tmps F (add fz G2):=by
    by_cases haff:a0.aff=true
    ·have:m0d σ0 a0=some (a0,σ0):=by
      cases a0 with
      | one c=>cases c <;> simp[A.aff,C.aff] at haff <;> rfl
      | agg=>rfl
      | tup=>rfl
     rw[this] at h
     simp only[Option.some.injEq,Prod.mk.injEq] at h
     obtain⟨rfl,rfl⟩:=h
     exact⟨G1,hr,hH⟩
    ·have haff:a0.aff=false:=by simpa using haff
     obtain⟨rfl,rfl⟩:=hna haff
     rw[z0g] at hH
     exact r0p h haff hr hH
   obtain⟨G2,hr2,hH2⟩:=hg
   obtain⟨lc',hlc,hH3⟩:=h0a hd hd2 hr2 hH2
   refine⟨_,_,w,N,lc',F,by simp only[execOp,ho,Sem.run_pure]; rfl,.inl rfl,hB,?_,⟨rfl,rfl,rfl,Nat.le_refl _,fun _ _ _=>rfl,fun _ h=> .inl h,fun _ h=>h,fun _ h=> .inl h,hlc⟩⟩
   rw[hdst]
   exact hH3
theorem a0y {c:C} {g:Value} {F0:Fp} {N':Nat→Prop} (hF: ∀b,1≤F0 b→N' b) (hN: ∀b,N b→N' b) (hz:(frzC c).aff=false) (h:repT w N lc c g F0):repT w N' lc (frzC c) g fz:=by
 unfold frzC at hz ⊢
 split
 ·rename_i hp
  exact u07 (u02 _ _ _ hF hN (v0s hp h))
 ·rename_i hp
  rw[if_neg hp] at hz
  have:=s0p hz h
  subst this
  exact r0f (p:=fun _ _=>false) c g fz (fun _ _=>rfl) hN (fun _ _ _ _ h=>h) (l09 c) h
theorem l0g: ∀{cs:List C} {vs:List Value} {F0:Fp} {N':Nat→Prop},(∀b,1≤F0 b→N' b)→(∀b,N b→N' b)→t0r (z1u cs)=false→z0m w N lc cs vs F0→z0m w N' lc (z1u cs) vs fz
 | [],_,_,_,_,_,_,h=>⟨h.1,rfl⟩
 | c :: cs,_,_,N',hF,hN,hz,⟨v,vs',F1,F2,hv,hF0,h1,h2⟩=>by
   subst hF0
   simp only[z1u,t0r,Bool.or_eq_false_iff] at hz
   exact⟨v,vs',fz,fz,hv,(z0g _).symm,a0y (fun b hb=>hF b (by simp only[add]; omega)) hN hz.1 h1,l0g (fun b hb=>hF b (by simp only[add]; omega)) hN hz.2 h2⟩
theorem p14 {a:A} {g:Value} {F0:Fp} {N':Nat→Prop} (hF: ∀b,1≤F0 b→N' b) (hN: ∀b,N b→N' b) (hz:(frzA a).aff=false) (h:repA w N lc a g F0):repA w N' lc (frzA a) g fz:=by
 cases a with
 | one c=>exact a0y hF hN hz h
 | agg cs=>obtain⟨vs,hg,h⟩:=h; exact⟨vs,hg,l0g hF hN hz h⟩
 | tup xs=>
   have:=h0o (a:= .tup xs) hz h
   subst this
   exact w0f (p:=fun _ _=>false) (.tup xs) g fz (fun _ _=>rfl) hN (fun _ _ _ _ h=>h) (n02 xs) h
theorem p1j {x:X} {x0:Operand} (hx:XOf x x0) {a:A} (h:e0t σ x=some (a,σ1)) (hh:Hold w N lc σ tmps F fz): ∃G2,repA w N lc a ((Act.mk tmps ds).eval x0) G2∧Hold w N lc σ1 tmps F (add fz G2):=by
 unfold e0t at h
 cases ht:v06 σ x with
 | none=>rw[ht] at h; simp at h
 | some y=>
   obtain⟨a0,σ0⟩:=y
   rw[ht] at h
   simp only at h
   obtain⟨G1,hr,hH,_,hna⟩:=y0w (ds:=ds) hx ht hh
   by_cases haff:a0.aff=true
   ·have:m0d σ0 a0=some (a0,σ0):=by
     cases a0 with
     | one c=>cases c <;> simp[A.aff,C.aff] at haff <;> rfl
     | agg=>rfl
     | tup=>rfl
    rw[this] at h
    simp only[Option.some.injEq,Prod.mk.injEq] at h
    obtain⟨rfl,rfl⟩:=h
    exact⟨G1,hr,hH⟩
   ·have haff:a0.aff=false:=by simpa using haff
    obtain⟨rfl,rfl⟩:=hna haff
    rw[z0g] at hH
    exact r0p h haff hr hH
theorem f11 {o:Oper} {x:X} {x0:Operand} {d:Nat} (ho:o.op = .assign x0) (hdst:o.dst=some d) (hx:XOf x x0) (hd:d<tmps.size) {a:A} (h:e0t σ x=some (a,σ1)) (hz:(frzA a).aff=false)
 (hB:Base w N F) (hh:Hold w N lc σ tmps F fz):MOk P w N lc tmps ds F o { tm:=put σ1.tm d (frzA a),ob:=σ1.ob }:=by
 obtain⟨G2,hr2,hH2⟩:=p1j (ds:=ds) hx h hh
 obtain⟨h3,h4,h5⟩:=p0e hB hH2
 have hr3:=p14 (N':=frzN N G2) (fun b hb=> .inr hb) (fun b hb=> .inl hb) hz hr2
 refine⟨_,_,w,_,lc,_,by simp only[execOp,ho,Sem.run_pure]; rfl,.inl rfl,h3,?_,h5⟩
 have h6:Hold w (frzN N G2) lc σ1 tmps (frzF F G2) (add fz fz):=by rw[z0g]; exact h4
 have:=y0j (ds:=ds) (d:=some d) h6 hr3 (fun k hk=>by injection hk with hk; subst hk; exact hd)
 rw[hdst]
 exact this
theorem b0k {o:Oper} {d t e:Nat} {cs:List C} {vs:List Value} {G1:Fp} (hrun:(execOp (Act.mk tmps ds).eval o).run P w = .ok (.value (.pointer (some ⟨w.heap.size,0,none⟩))) (w.alloc (.cells vs.toArray (tyOf t))))
 (hdst:o.dst=some d) (hd:d<tmps.size) (hd2:d<1000) (hl:cs.length=e) (hr:z0d w N cs vs G1) (hB:Base w N F) (hh:Hold w N lc σ tmps F (add fz G1)) :
 MOk P w N lc tmps ds F o (z1o σ d t e cs):=by
 have hB':=z1j hB (.cells vs.toArray (tyOf t))
 have hgrow:=s01 w (.cells vs.toArray (tyOf t))
 have h1:=i05 (σ:=σ) (x1i hB) (u04 hgrow hB hh)
 have hvl:=y01 hr
 have hGF: ∀b,G1 b≤F b:=fun b=>by
  obtain⟨Ft,Fo,hle,_,_⟩:=hh
  have:=hle b; simp only[add,fz] at this; omega
 have hrow:z0d (w.alloc (.cells vs.toArray (tyOf t))) N cs vs G1:=
  y0n cs vs G1 (fun b hb=>hgrow b (hb.elim (fun h=>hB.lt b (Nat.le_trans h (hGF b))) fun h=>(hB.nb b h).2)) (fun _ h=>h) hr
 have hO:repO (w.alloc (.cells vs.toArray (tyOf t))) N (some (w.heap.size,1)) t e [cs] (add (Am.one w.heap.size) G1):=by
  refine .inr ⟨w.heap.size,1,vs.toArray,G1,rfl,s0y w _,by simp,⟨by simp[maxLen],fun _=>rfl⟩,by simp[hvl,hl],?_,rfl⟩
  simp only[List.length_singleton,Nat.one_mul]
  rw[List.take_of_length_le (by simp[hvl,hl])]
  simp only[z09]
  exact⟨vs,[],G1,fz,by simp,hl,(z0g _).symm,hrow,rfl,rfl⟩
 have h2:Hold (w.alloc (.cells vs.toArray (tyOf t))) N lc σ tmps (own F w.heap.size) (add fz (add (Am.one w.heap.size) G1)):=by
  have:add fz (add (Am.one w.heap.size) G1)=add (Am.one w.heap.size) (add fz G1):=by funext x; simp only[add,fz]; omega
  rw[this]; exact h1
 have h3:=n0i (d:=d) hO h2
 refine⟨_,_,_,N,fun i=>if i=d then some (w.heap.size,1) else lc i,own F w.heap.size,hrun,.inl rfl,hB',?_,s1x hB _ _ fun id hid=>if_neg (by omega)⟩
 rw[hdst]
 have hv:repA (w.alloc (.cells vs.toArray (tyOf t))) N (fun i=>if i=d then some (w.heap.size,1) else lc i) (.one (.pt e d [] 0 0)) (.pointer (some ⟨w.heap.size,0,none⟩)) fz:=by
  simp only[repA,repT,resF,if_true]
  exact⟨trivial,w.heap.size,1,rfl,by simp⟩
 exact y0j (ds:=ds) (d:=some d) (a:= .one (.pt e d [] 0 0)) (G1:=fz) (by rw[z0g]; exact h3) hv (fun k hk=>by injection hk with hk; omega)
theorem f18 {o:Oper} {x:X} {x0:Operand} {d t e:Nat} (ho:o.op = .box (tyOf t) x0) (hdst:o.dst=some d) (hx:XOf x x0) (hd:d<tmps.size) (hd2:d<1000) {cs:List C} (h:r0k false σ x=some (cs,σ1)) (hl:cs.length=e)
 (hB:Base w N F) (hh:Hold w N lc σ tmps F fz):MOk P w N lc tmps ds F o (z1o σ1 d t e cs):=by
 obtain⟨vs,N',F',G',hv,hr,hB',hH',hFr⟩:=o05 (ds:=ds) hx h hB hh
 have hrun:(execOp (Act.mk tmps ds).eval o).run P w = .ok (.value (.pointer (some ⟨w.heap.size,0,none⟩))) (w.alloc (.cells vs.toArray (tyOf t))):=by
  simp only[execOp,ho,Instr.box,newVar,newRow,hv,Sem.run_bind,run_newObj_alloc,Result.andThen_ok,Sem.run_pure]
 obtain⟨r,v,w',N2,lc',F2,h1,h2,h3,h4,h5⟩:=b0k (P:=P) hrun hdst hd hd2 hl hr hB' hH'
 exact⟨r,v,w',N2,lc',F2,h1,h2,h3,h4,hFr.trans h5⟩
theorem o1x {o:Oper} {x:X} {x0:Operand} {d t:Nat} (ho:o.op = .box t x0) (hdst:o.dst=some d) (hx:XOf x x0) (hd:d<tmps.size) {a:A} {cs:List C} (h:v06 σ x=some (a,σ1)) (hcs:z1n a=some cs) (haff:t0r cs=false)
 (hB:Base w N F) (hh:Hold w N lc σ tmps F fz):MOk P w N lc tmps ds F o (setT σ1 (some d) (.one (.ps cs))):=by
 obtain⟨G1,hr,hH,_,hna⟩:=y0w (ds:=ds) hx h hh
 have hrow: ∃vs:List Value,((Act.mk tmps ds).eval x0).cells=vs.toArray∧z0m w N lc cs vs fz∧G1=fz:=by
  cases a with
  | tup xs=>simp[z1n] at hcs
  | agg cs1=>
    simp only[z1n,Option.some.injEq] at hcs
    subst hcs
    obtain⟨rfl,_⟩:=hna haff
    obtain⟨vs,hv,hrow⟩:=hr
    exact⟨vs,by rw[hv]; rfl,hrow,rfl⟩
  | one c=>
    simp only[z1n] at hcs
    split at hcs
    case isFalse=>cases hcs
    rename_i hp
    simp only[Option.some.injEq] at hcs
    subst hcs
    simp only[t0r,Bool.or_false] at haff
    obtain⟨rfl,_⟩:=hna haff
    have hone:=t0p (v0s hp hr)
    refine⟨[(Act.mk tmps ds).eval x0],?_,⟨_,[],fz,fz,rfl,(z0g _).symm,hr,rfl,rfl⟩,rfl⟩
    cases hv:(Act.mk tmps ds).eval x0 with
    | agg=>rw[hv] at hone; simp[Value.oneCell'] at hone
    | _=>rfl
 obtain⟨vs,hc,hrow,rfl⟩:=hrow
 rw[z0g] at hH
 have hrun:(execOp (Act.mk tmps ds).eval o).run P w = .ok (.value (.pointer (some ⟨w.heap.size,0,none⟩))) (w.alloc (.cells vs.toArray t)):=by
  simp only[execOp,ho,Instr.box,newVar,newRow,hc,Sem.run_bind,run_newObj_alloc,Result.andThen_ok,Sem.run_pure]
 have hgrow:=s01 w (.cells vs.toArray t)
 have hsz:=s02 w (.cells vs.toArray t)
 let N':Nat→Prop:=fun b=>N b∨b=w.heap.size
 have hNN: ∀b,N b→N' b:=fun b hb=> .inl hb
 have hF0:=x1i hB
 have hB':Base (w.alloc (.cells vs.toArray t)) N' F:=by
  refine⟨hB.one,fun b hb=>by have:=hB.lt b hb; omega,fun b hb=>?_⟩
  rcases hb with hb | rfl
  ·exact⟨(hB.nb b hb).1,by have:=(hB.nb b hb).2; omega⟩
  ·exact⟨hF0,by omega⟩
 have hvl:=t09 hrow
 have hrow':z0m (w.alloc (.cells vs.toArray t)) N' lc cs vs fz:=
  x09 (p:=fun _ _=>false) cs vs fz (fun b hb=>hgrow b (hb.elim (fun h=>by simp[fz] at h) fun h=>(hB.nb b h).2)) hNN (fun _ st _ x hx=>o00 hgrow st _ x hx) (w02 cs) hrow
 have hps:repA (w.alloc (.cells vs.toArray t)) N' lc (.one (.ps cs)) (.pointer (some ⟨w.heap.size,0,none⟩)) fz:=by
  simp only[repA,repT]
  refine⟨trivial,w.heap.size,0,vs.toArray,t,(0,0),rfl,.inr rfl,s0y w _,by simp[hvl],?_⟩
  have:((vs.toArray.toList.drop 0).take cs.length)=vs:=by rw[List.drop_zero,List.take_of_length_le (by simp[hvl])]
  rw[this]; exact hrow'
 obtain⟨Ft,Fo,hle,htm,hob⟩:=u04 hgrow hB hH
 have hH2:Hold (w.alloc (.cells vs.toArray t)) N' lc σ1 tmps F (add fz fz):=by
  refine⟨Ft,Fo,fun b=>by have:=hle b; simp only[add,fz] at *; omega,?_,?_⟩
  ·exact u0y tmps σ1.tm Ft (fun _ _=>rfl) hNN (fun _ _ _ h=>h) htm
  ·exact y0q σ1.ob Fo (fun _ _=>rfl) hNN (fun _ _ _=>rfl) hob
 refine⟨_,_,_,N',lc,F,hrun,.inl rfl,hB',?_,⟨rfl,rfl,rfl,by omega,fun b hb _=>hgrow b hb,fun b hb=> .inl hb,hNN,fun b hb=>?_,fun _ _=>rfl⟩⟩
 ·rw[hdst]
  exact y0j (ds:=ds) (d:=some d) hH2 hps (fun k hk=>by injection hk with hk; omega)
 ·rcases hb with hb | rfl
  ·exact .inl hb
  ·exact .inr (.inr (Nat.le_refl _))
theorem d04 {o:Oper} {t:Nat} {i:TypeInfo} {zv:Value} (ho:o.op = .alloc t) (hi:P.info? t=some i) (hz:i.zero=some zv) :
 (execOp (Act.mk tmps ds).eval o).run P w = .ok (.value (.pointer (some ⟨w.heap.size,0,none⟩))) (w.alloc (.cells zv.cells.toList.toArray t)):=by
 simp only[execOp,ho,Instr.alloc,zeroValue,typeInfo,run_program,hi,hz,newVar,newRow,Sem.run_bind,run_newObj_alloc,Result.andThen_ok,Sem.run_pure,Array.toArray_toList]
theorem g1w {o:Oper} {d t e:Nat} {z:List C} {i:TypeInfo} {zv:Value} (ho:o.op = .alloc (tyOf t)) (hdst:o.dst=some d) (hi:P.info? (tyOf t)=some i) (hz:i.zero=some zv) (hl:z.length=e)
 (hr: ∀(w:World) (N:Nat→Prop),z0d w N z zv.cells.toList fz) (hd:d<tmps.size) (hd2:d<1000) (hB:Base w N F) (hh:Hold w N lc σ tmps F fz):MOk P w N lc tmps ds F o (z1o σ d t e z):=by
 exact b0k (d04 ho hi hz) hdst hd hd2 hl (hr w N) hB (by rw[z0g]; exact hh)
theorem j0t: ∀{r:List C} {vs:List Value} {F:Fp} {f n:Nat},z0d w N r vs F→f+n≤r.length→
 ∃F1 F2,F=add F1 F2∧z0d w N ((r.drop f).take n) ((vs.drop f).take n) F1∧
  ∀(w':World) (N':Nat→Prop) (cs:List C) (us:List Value) (F1':Fp),cs.length=n→(∀b,1≤F2 b∨N b→w'.heap[b]?=w.heap[b]?)→(∀b,N b→N' b)→
   z0d w' N' cs us F1'→z0d w' N' (r.take f ++ cs ++ r.drop (f+n)) (vs.take f ++ us ++ vs.drop (f+n)) (add F1' F2):=by
 intro r vs F f
 induction f generalizing r vs F with
 | zero=>
   intro n
   induction n generalizing r vs F with
   | zero=>
     intro h _
     refine⟨fz,F,(v0c _).symm,by simp[z0d],fun w' N' cs us F1' hl hk hN h'=>?_⟩
     have hcs:cs=[]:=List.eq_nil_of_length_eq_zero hl
     subst hcs
     simp only[z0d] at h'
     obtain⟨rfl,rfl⟩:=h'
     simpa [v0c] using y0n r vs F hk hN h
   | succ n ih=>
     intro h hl
     cases r with
     | nil=>simp at hl
     | cons c r=>
       simp only[z0d] at h
       obtain⟨v,vs',F1,F2,rfl,rfl,h1,h2⟩:=h
       obtain⟨G1,G2,rfl,hseg,hset⟩:=ih h2 (by simpa using hl)
       refine⟨add F1 G1,G2,(add_assoc ..).symm,?_,fun w' N' cs us F1' hlc hk hN h'=>?_⟩
       ·simp only[List.drop_zero,List.take_succ_cons,z0d]
        exact⟨v,_,F1,G1,rfl,rfl,h1,by simpa using hseg⟩
       ·have hr:=hset w' N' [] [] fz
        cases cs with
        | nil=>simp at hlc
        | cons c' cs=>
          simp only[z0d] at h'
          obtain⟨v',us',H1,H2,rfl,rfl,h3,h4⟩:=h'
          have:=hset w' N' cs us' H2 (by simpa using hlc) hk hN h4
          simp only[List.take_zero,List.nil_append,Nat.zero_add] at this ⊢
          simp only[List.cons_append,List.drop_succ_cons,z0d]
          exact⟨v',_,H1,add H2 G2,rfl,add_assoc ..,h3,this⟩
 | succ f ih=>
   intro n h hl
   cases r with
   | nil=>simp at hl
   | cons c r=>
     simp only[z0d] at h
     obtain⟨v,vs',F1,F2,rfl,rfl,h1,h2⟩:=h
     obtain⟨G1,G2,rfl,hseg,hset⟩:=ih (n:=n) h2 (by simp at hl; omega)
     refine⟨G1,add F1 G2,add_left_comm ..,by simpa using hseg,fun w' N' cs us F1' hlc hk hN h'=>?_⟩
     have:=hset w' N' cs us F1' hlc (fun b hb=>hk b (hb.imp_left fun h=>by simp only[add]; omega)) hN h'
     rw[show f+1+n=f+n+1 from by omega]
     simp only[List.take_succ_cons,List.drop_succ_cons,List.cons_append,z0d]
     exact⟨v,_,F1,add F1' G2,rfl,add_left_comm ..,w05 c v F1 (fun b hb=>hk b (hb.imp_left fun h=>by simp only[add]; omega)) hN h1,this⟩
theorem p00 {e:Nat}: ∀{xs:List (List C)} {vs:List Value} {F:Fp} {i:Nat} {r:List C},z09 w N e xs vs F→xs[i]?=some r→
 ∃F1 F2,F=add F1 F2∧r.length=e∧i*e+e≤vs.length∧z0d w N r ((vs.drop (i*e)).take e) F1∧
  ∀(w':World) (N':Nat→Prop) (r':List C) (us:List Value) (F1':Fp),r'.length=e→(∀b,1≤F2 b∨N b→w'.heap[b]?=w.heap[b]?)→(∀b,N b→N' b)→
   z0d w' N' r' us F1'→z09 w' N' e (xs.set i r') (vs.take (i*e) ++ us ++ vs.drop (i*e+e)) (add F1' F2)
 | [],_,_,_,_,_,hi=>by simp at hi
 | r0 :: rs,_,_,0,r,h,hi=>by
   simp only[z09] at h
   obtain⟨v1,v2,F1,F2,rfl,hl,rfl,h1,h2⟩:=h
   simp only[List.getElem?_cons_zero,Option.some.injEq] at hi
   subst hi
   have hlen:=y01 h1
   refine⟨F1,F2,rfl,hl,by simp only[List.length_append]; omega,?_,fun w' N' r' us F1' hl' hk hN h'=>?_⟩
   ·have:((v1 ++ v2).drop (0*e)).take e=v1:=by rw[Nat.zero_mul,List.drop_zero,← hl,← hlen,List.take_left']; rfl
    rw[this]; exact h1
   ·simp only[List.set_cons_zero,z09,Nat.zero_mul,List.take_zero,List.nil_append,Nat.zero_add]
    refine⟨us,v2,F1',F2,?_,hl',rfl,h',x0a e rs v2 F2 hk hN h2⟩
    rw[← hl,← hlen,List.drop_left']
    rfl
 | r0 :: rs,_,_,i+1,r,h,hi=>by
   simp only[z09] at h
   obtain⟨v1,v2,F1,F2,rfl,hl,rfl,h1,h2⟩:=h
   simp only[List.getElem?_cons_succ] at hi
   obtain⟨G1,G2,rfl,hre,hle,hrow,hset⟩:=p00 h2 hi
   have hlen:=y01 h1
   have hidx:(i+1)*e=v1.length+i*e:=by rw[hlen,hl,Nat.add_mul,Nat.one_mul]; omega
   refine⟨G1,add F1 G2,add_left_comm ..,hre,by simp only[List.length_append]; omega,?_,fun w' N' r' us F1' hl' hk hN h'=>?_⟩
   ·rw[hidx,List.drop_length_add_append]; exact hrow
   ·have:=hset w' N' r' us F1' hl' (fun b hb=>hk b (hb.imp_left fun h=>by simp only[add]; omega)) hN h'
    simp only[List.set_cons_succ,z09]
    refine⟨v1,_,F1,add F1' G2,?_,hl,add_left_comm ..,y0n r0 v1 F1 (fun b hb=>hk b (hb.imp_left fun h=>by simp only[add]; omega)) hN h1,this⟩
    rw[hidx,List.take_length_add_append,Nat.add_assoc,List.drop_length_add_append]
    simp[List.append_assoc]
end
end Go.Am
namespace Go.Am
theorem c0c {α:Type} (L vs:List α) (M ie e f n:Nat) (hM:M≤L.length) (h1:ie+e≤M) (h2:f+n≤e) (hv:vs.length=n) :
 (L.take (ie+f) ++ vs ++ L.drop (ie+f+n)).take M =
   (L.take M).take ie ++ ((((L.take M).drop ie).take e).take f ++ vs ++ (((L.take M).drop ie).take e).drop (f+n)) ++ (L.take M).drop (ie+e):=by
 apply List.ext_getElem?
 intro k
 simp only[List.getElem?_take,List.getElem?_append,List.length_append,List.length_take,List.length_drop,List.getElem?_drop]
 have e1:min (ie+f) L.length=ie+f:=by omega
 have e2:min M L.length=M:=by omega
 have e3:min ie M=ie:=by omega
 have e4:min e (M - ie)=e:=by omega
 have e5:min f e=f:=by omega
 simp only[e1,e2,e3,e4,e5,hv]
 by_cases hk1:k<M
 ·rw[if_pos hk1]
  by_cases hk2:k<ie
  ·simp only[if_pos (show k<ie+f+n from by omega),if_pos (show k<ie+f from by omega),if_pos (show k<ie+(f+n+(e - (f+n))) from by omega),if_pos hk2,if_pos hk1]
  ·by_cases hk3:k<ie+f
   ·simp only[if_pos (show k<ie+f+n from by omega),if_pos hk3,if_pos (show k<ie+(f+n+(e - (f+n))) from by omega),if_neg hk2,
     if_pos (show k - ie<f+n from by omega),if_pos (show k - ie<f from by omega),if_pos (show k - ie<e from by omega),if_pos (show ie+(k - ie)<M from by omega)]
    congr 1; omega
   ·by_cases hk4:k<ie+f+n
    ·simp only[if_pos hk4,if_neg hk3,if_pos (show k<ie+(f+n+(e - (f+n))) from by omega),if_neg hk2,if_pos (show k - ie<f+n from by omega),if_neg (show ¬k - ie<f from by omega)]
     congr 1; omega
    ·by_cases hk5:k<ie+e
     ·simp only[if_neg hk4,if_pos (show k<ie+(f+n+(e - (f+n))) from by omega),if_neg hk2,if_neg (show ¬k - ie<f+n from by omega),
       if_pos (show f+n+(k - ie - (f+n))<e from by omega),if_pos (show ie+(f+n+(k - ie - (f+n)))<M from by omega)]
      congr 1; omega
     ·simp only[if_neg hk4,if_neg (show ¬k<ie+(f+n+(e - (f+n))) from by omega)]
      rw[if_pos (show ie+e+(k - (ie+(f+n+(e - (f+n)))))<M from by omega)]
      congr 1; omega
 ·rw[if_neg hk1]
  simp only[if_neg (show ¬k<ie+(f+n+(e - (f+n))) from by omega)]
  rw[if_neg (by omega)]
section
variable {P:Program} {w:World} {N:Nat→Prop} {lc:Loc} {tmps:Array Value} {ds:List Deferred} {F G:Fp} {σ σ1:St}
def Rfv (v:Value):Prop:=(∃a n c,v=Value.slice a n c)∨∃a,v=Value.pointer a
theorem h0p {b:Nat} {cur cur':Array Value} {t:Nat} (hb:w.heap[b]?=some (.cells cur t (0,0))) (hc: ∀(k:Nat) (v:Value),Rfv v→cur[k]?=some v→cur'[k]?=some v) :
 ∀(st:Path) (l:Option (Nat×Nat)) (x:Nat×Nat),resF w l st=some x→resF (w.setRow b cur') l st=some x
 | [],_,_,h=>h
 | (e,i,f) :: r,some (b0,c),x,h=>by
   simp only[resF] at h ⊢
   cases hcell:w.cell? ⟨b0,i*e+f,none⟩ with
   | none=>rw[hcell] at h; simp at h
   | some v=>
     rw[hcell] at h
     have key:Rfv v→(w.setRow b cur').cell? ⟨b0,i*e+f,none⟩=some v:=by
      intro hv
      by_cases hbb:b0=b
      ·subst hbb
       rw[cell_setRow_same w b0 _ cur cur' t (0,0) hb]
       rw[y07 hb] at hcell
       exact hc _ _ hv hcell
      ·have:(w.setRow b cur').heap[b0]?=w.heap[b0]?:=setRow_other w b b0 cur' hbb
       rw[World.cell?_of_block this]; exact hcell
     split at h
     ·rename_i b2 n2 c2 heq
      injection heq with heq
      subst heq
      rw[key (.inl ⟨_,_,_,rfl⟩)]
      exact h0p hb hc r _ x h
     ·rename_i b2 heq
      injection heq with heq
      subst heq
      rw[key (.inr ⟨_,rfl⟩)]
      exact h0p hb hc r _ x h
     ·cases h
 | _ :: _,none,_,h=>by simp[resF] at h
theorem n05: ∀{cs:List C} {vs:List Value} {F:Fp},z0d w N cs vs F→cs.all C.scal=true→∀(k:Nat) (v:Value),Rfv v→vs[k]?≠some v
 | [],_,_,h,_,k,v,_=>by simp only[z0d] at h; rw[h.1]; simp
 | c0 :: cs,_,_,h,hs,0,v0,hr=>by
   simp only[z0d] at h
   obtain⟨v,vs',F1,F2,rfl,rfl,h1,h2⟩:=h
   simp only[List.all_cons,Bool.and_eq_true] at hs
   intro hv
   simp only[List.getElem?_cons_zero,Option.some.injEq] at hv
   subst hv
   cases c0 with
   | int k n=>rcases hr with⟨_,_,_,e⟩ | ⟨_,e⟩ <;> (rw[h1.1] at e; cases e)
   | bool b=>rcases hr with⟨_,_,_,e⟩ | ⟨_,e⟩ <;> (rw[h1.1] at e; cases e)
   | str s=>rcases hr with⟨_,_,_,e⟩ | ⟨_,e⟩ <;> (rw[h1.1] at e; cases e)
   | _=>simp[C.scal] at hs
 | c0 :: cs,_,_,h,hs,k+1,v0,hr=>by
   simp only[z0d] at h
   obtain⟨v,vs',F1,F2,rfl,rfl,h1,h2⟩:=h
   simp only[List.all_cons,Bool.and_eq_true] at hs
   simpa using n05 h2 hs.2 k v0 hr
theorem z2v {o:Oper} {t n:Nat} {fzm:Bool} {p v:X} {p0 v0:Operand} (ho:o.op = .store t p0 v0) (hdst:o.dst=none) (hp:XOf p p0) (hv:XOf v v0) (hs:s00 P t n)
 (h:runM none (.st n fzm p v) σ=some σ1) (hB:Base w N F) (hh:Hold w N lc σ tmps F fz):MOk P w N lc tmps ds F o σ1:=by
 simp only[runM] at h
 split at h
 case h_2=>cases h
 rename_i e id st i f _ hev
 obtain⟨G0,⟨_,b,cap,hres,hpv⟩,_⟩:=y0r (ds:=ds) hp hev hh
 cases hst:r0k fzm σ v with
 | none=>rw[hst] at h; simp at h
 | some y=>
   obtain⟨cs,σ2⟩:=y
   rw[hst] at h
   simp only at h
   split at h
   case isFalse=>cases h
   rename_i hcs
   cases hlo:look σ2.ob id with
   | none=>rw[hlo] at h; simp at h
   | some o1=>
     rw[hlo] at h
     simp only at h
     cases hga:getA o1.t o1.e o1.xs st with
     | none=>rw[hga] at h; simp at h
     | some o2=>
       rw[hga] at h
       simp only at h
       split at h
       case isFalse=>cases h
       rename_i he
       cases hrow:o2.xs[i]? with
       | none=>rw[hrow] at h; simp at h
       | some row=>
         rw[hrow] at h
         simp only at h
         split at h
         case isFalse=>cases h
         rename_i hfn
         simp only[Option.some.injEq] at h
         obtain⟨vs,N1,F1,G1,hvv,hrep,hB1,hH1,hFr⟩:=o05 (ds:=ds) hv hst hB hh
         obtain⟨Ft,Fo,hle,htm,hob⟩:=hH1
         obtain⟨F2,F3,hle2,hO,hob3⟩:=y0d σ2.ob Fo id o1 hlo hob
         obtain⟨l',F4,F5,hl',hO',rfl,hback⟩:=v0u st hO hga
         rcases hO' with⟨_,hnil⟩ | ⟨b',cap',cur,F6,hl2,hb,hlen,hc,hcs',hr,rfl⟩
         ·rw[hnil] at hrow; simp at hrow
         ·have hbb:b=b'∧cap=cap':=by
           rcases hl' with h | h
           ·rw[hl2] at h; cases h
           ·rw[hres,hl2] at h; injection h with h; injection h with h1 h2; exact⟨h1,h2⟩
          obtain⟨rfl,rfl⟩:=hbb
          obtain⟨F7,F8,rfl,hre,hile,hrowrep,hset⟩:=p00 hr hrow
          rw[List.length_take,Array.length_toList] at hile
          obtain⟨F9,F10,rfl,hold,hseg⟩:=j0t (f:=f) (n:=n) hrowrep (by omega)
          have hvl:vs.length=n:=by rw[y01 hrep,hcs]
          have tot: ∀x,G1 x+Ft x+F3 x+(Am.one b x+(F9 x+F10 x)+F8 x+F5 x)≤F1 x:=fun x=>by
           have h1:=hle x; have h2:=hle2 x; simp only[add,fz] at h1 h2; omega
          have hb1:F1 b≤1:=hB1.one b
          have hone:Am.one b b=1:=by simp[Am.one]
          have hbz:G1 b=0∧Ft b=0∧F3 b=0∧F9 b=0∧F10 b=0∧F8 b=0∧F5 b=0:=by have:=tot b; omega
          have hbF:F1 b=1:=by have:=tot b; omega
          have hNb: ¬N1 b:=fun h=>by have:=(hB1.nb b h).1; omega
          let cur':Array Value:=(cur.toList.take (i*e+f) ++ vs ++ cur.toList.drop (i*e+f+vs.length)).toArray
          have hfit:i*e+f+vs.length≤cur.size:=by rw[he] at hile; omega
          have hrun:(storeCells ⟨b,i*e+f,none⟩ vs).run P w = .ok () (w.setRow b cur'):=by
           have:=run_storeCells_at P b (i*e+f) (tyOf o2.t) vs 0 cur w hb (by simpa using hfit) (u03 hrep)
           simpa [cur'] using this
          have hother: ∀k,k≠b→(w.setRow b cur').heap[k]?=w.heap[k]?:=fun k hk=>setRow_other w b k cur' hk
          have hself:(w.setRow b cur').heap[b]?=some (.cells cur' (tyOf o2.t) (0,0)):=setRow_heap w b cur cur' (tyOf o2.t) (0,0) hb
          have hsz:(w.setRow b cur').heap.size=w.heap.size:=by simp[World.setRow]
          have keepF: ∀(H:Fp),(∀x,H x≤F1 x)→H b=0→∀x,1≤H x∨N1 x→(w.setRow b cur').heap[x]?=w.heap[x]?:=by
           intro H _ hHb x hx
           apply hother
           rintro rfl
           rcases hx with hx | hx
           ·omega
           ·exact hNb hx
          have le1: ∀{H:Fp},(∀x,H x≤G1 x+Ft x+F3 x+(Am.one b x+(F9 x+F10 x)+F8 x+F5 x))→∀x,H x≤F1 x:=fun hH x=>Nat.le_trans (hH x) (tot x)
          have hrep':z0d (w.setRow b cur') N1 cs vs G1:=y0n cs vs G1 (keepF G1 (le1 fun x=>by omega) hbz.1) (fun _ h=>h) hrep
          have hseg':=hseg (w.setRow b cur') N1 cs vs G1 hcs (keepF F10 (le1 fun x=>by omega) hbz.2.2.2.2.1) (fun _ h=>h) hrep'
          have hlen':(row.take f ++ cs ++ row.drop (f+n)).length=o2.e:=by
           simp only[List.length_append,List.length_take,List.length_drop]; omega
          have hset':=hset (w.setRow b cur') N1 _ _ _ hlen' (keepF F8 (le1 fun x=>by omega) hbz.2.2.2.2.2.1) (fun _ h=>h) hseg'
          have hMle:o2.xs.length*o2.e≤cur.toList.length:=by rw[Array.length_toList,hcs']; exact Nat.mul_le_mul_right _ hlen
          have hvals:(cur'.toList.take (o2.xs.length*o2.e))=(cur.toList.take (o2.xs.length*o2.e)).take (i*o2.e) ++ ((((cur.toList.take (o2.xs.length*o2.e)).drop (i*o2.e)).take o2.e).take f ++ vs ++
           (((cur.toList.take (o2.xs.length*o2.e)).drop (i*o2.e)).take o2.e).drop (f+n)) ++ (cur.toList.take (o2.xs.length*o2.e)).drop (i*o2.e+o2.e):=by
           have:=c0c cur.toList vs (o2.xs.length*o2.e) (i*o2.e) o2.e f n hMle (by omega) (by omega) hvl
           simp only[cur',hvl]
           rw[← this,he]
          have hO2:repO (w.setRow b cur') N1 l' o2.t o2.e (o2.xs.set i (row.take f ++ cs ++ row.drop (f+n))) (add (Am.one b) (add (add G1 F10) F8)):=by
           refine .inr ⟨b,cap,cur',add (add G1 F10) F8,hl2,hself,by simpa using hlen,hc,?_,?_,rfl⟩
           ·rw[← hcs']
            simp only[cur',List.size_toArray,List.length_append,List.length_take,List.length_drop,Array.length_toList]
            omega
           ·rw[List.length_set,hvals]; exact hset'
          have hO1:=hback (w.setRow b cur') N1 _ _ (by simp) (keepF F5 (le1 fun x=>by omega) hbz.2.2.2.2.2.2) (fun _ h=>h) hO2
          have hob':=y0q (w':=w.setRow b cur') (N':=N1) (lc':=lc) (del σ2.ob id) F3 (keepF F3 (le1 fun x=>by omega) hbz.2.2.1) (fun _ h=>h) (fun _ _ _=>rfl) hob3
          obtain⟨F11,hF11,hob4⟩:=p0x (d:=id) (o:=⟨o1.t,o1.e,setA o1.xs st (o2.xs.set i (row.take f ++ cs ++ row.drop (f+n)))⟩) hO1 hob'
          have hdd:put (del σ2.ob id) id (⟨o1.t,o1.e,setA o1.xs st (o2.xs.set i (row.take f ++ cs ++ row.drop (f+n)))⟩:Obj)=put σ2.ob id ⟨o1.t,o1.e,setA o1.xs st (o2.xs.set i (row.take f ++ cs ++ row.drop (f+n)))⟩:=by
           simp only[put,i0l]
          rw[hdd] at hob4
          have htm': ∃Ft',(∀x,Ft' x≤Ft x)∧x0u (w.setRow b cur') N1 lc tmps σ1.tm Ft':=by
           subst h
           simp only
           split
           ·rename_i hq
            simp only[Bool.and_eq_true] at hq
            refine⟨Ft,fun _=>Nat.le_refl _,u0y tmps σ2.tm Ft (keepF Ft (le1 fun x=>by omega) hbz.2.1) (fun _ h=>h) (fun ii s x hx=>?_) htm⟩
            refine h0p hb (fun k vv hvv hk=>?_) s _ x hx
            have hno:=n05 hold hq.2
            have hout:k<i*e+f∨i*e+f+n≤k:=by
             rcases Nat.lt_or_ge k (i*e+f) with h | h
             ·exact .inl h
             ·rcases Nat.lt_or_ge k (i*e+f+n) with h2 | h2
              ·exfalso
               refine hno (k - (i*e+f)) vv hvv ?_
               rw[List.getElem?_take,if_pos (by omega),List.getElem?_drop,List.getElem?_take,if_pos (by omega),List.getElem?_drop,List.getElem?_take,if_pos (by rw[he] at hile; rw[he]; omega)]
               rw[← hk,Array.getElem?_toList]
               congr 1
               rw[he]; omega
              ·exact .inr h2
            have hkl:k<cur.size:=by
             rcases Nat.lt_or_ge k cur.size with h | h
             ·exact h
             ·rw[Array.getElem?_eq_none h] at hk; cases hk
            simp only[cur',List.getElem?_toArray,List.getElem?_append,List.length_append,List.length_take,Array.length_toList,List.getElem?_take,List.getElem?_drop]
            have e1:min (i*e+f) cur.size=i*e+f:=by omega
            rw[e1]
            rcases hout with h | h
            ·rw[if_pos (by omega),if_pos h,if_pos h,Array.getElem?_toList]; exact hk
            ·rw[if_neg (by omega),Array.getElem?_toList,← hk]
             congr 1
             omega
           ·exact w0r (p:=deep) tmps σ2.tm Ft (keepF Ft (le1 fun x=>by omega) hbz.2.1) (fun _ h=>h) (fun ii s hp x hx=>by
             have:s=[]:=by simpa [deep] using hp
             subst this
             exact hx) htm
          obtain⟨Ft',hFt',htm''⟩:=htm'
          obtain⟨ti,hti,hsz'⟩:=hs
          refine⟨.skip,undef,w.setRow b cur',N1,lc,F1,?_,.inr ⟨rfl,rfl⟩,⟨hB1.one,fun x hx=>by rw[hsz]; exact hB1.lt x hx,fun x hx=>by rw[hsz]; exact hB1.nb x hx⟩,?_,hFr.trans ?_⟩
          ·simp only[execOp,ho,Instr.storeAt,hpv,Instr.sureAddr,Sem.run_bind,Sem.run_pure,Result.andThen_ok,storeVar,sizeOf,typeInfo,run_program,hti,hvv,List.size_toArray,hvl,hsz',ne_eq,not_true_eq_false,if_false,Sem.run_ite]
           simp only[hrun,Result.andThen_ok,Sem.run_pure]
          ·rw[hdst]
           refine⟨Ft',F11,fun x=>?_,htm'',?_⟩
           ·have h1:=hF11 x; have h2:=hFt' x; have h3:=tot x; simp only[add,fz] at *; omega
           ·subst h; exact hob4
          ·exact⟨rfl,rfl,rfl,by rw[hsz]; exact Nat.le_refl _,fun x hx h0=>hother x (by rintro rfl; omega),fun _ h=> .inl h,fun _ h=>h,fun _ h=> .inl h,fun _ _=>rfl⟩
end
end Go.Am
namespace Go.Am
section
variable {P:Program} {w:World} {N:Nat→Prop} {lc:Loc} {tmps:Array Value} {ds:List Deferred} {F G:Fp} {σ σ1:St}
theorem m0y {o:Oper} {t e cap:Nat} {xs:List (List C)} {cells:Array Value} {G1:Fp} {w1:World} (hw1: ∀b,b<w.heap.size→w1.heap[b]?=w.heap[b]?) (hsz:w1.heap.size=w.heap.size)
 (hos:w1.os=w.os) (hta:w1.tape=w.tape) (hou:w1.output=w.output)
 (hrun:(execOp (Act.mk tmps ds).eval o).run P w = .ok (.value (.slice (some ⟨w.heap.size,0,none⟩) xs.length cap)) (w1.alloc (.cells cells t)))
 (hd: ∀k,o.dst=some k→k<tmps.size) (hcap:xs.length≤cap) (hmax:cap≤maxLen) (hcs:cells.size=cap*e) (hr:z09 w N e xs (cells.toList.take (xs.length*e)) G1) (hB:Base w N F) (hh:Hold w N lc σ tmps F (add fz G1)) :
 MOk P w N lc tmps ds F o (setT σ o.dst (.one (.ar true t e xs))):=by
 have hgrow: ∀b,b<w.heap.size→(w1.alloc (.cells cells t)).heap[b]?=w.heap[b]?:=fun b hb=>(s01 w1 _ b (by omega)).trans (hw1 b hb)
 have hnew:(w1.alloc (.cells cells t)).heap[w.heap.size]?=some (.cells cells t (0,0)):=by rw[← hsz]; exact s0y w1 _
 have hsz':(w1.alloc (.cells cells t)).heap.size=w.heap.size+1:=by rw[s02,hsz]
 have h1:=i05 (σ:=σ) (x1i hB) (u04 hgrow hB hh)
 have hGF: ∀b,G1 b≤F b:=fun b=>by
  obtain⟨Ft,Fo,hle,_,_⟩:=hh
  have:=hle b; simp only[add,fz] at this; omega
 have hrow:z09 (w1.alloc (.cells cells t)) N e xs (cells.toList.take (xs.length*e)) G1:=
  x0a e xs _ G1 (fun b hb=>hgrow b (hb.elim (fun h=>hB.lt b (Nat.le_trans h (hGF b))) fun h=>(hB.nb b h).2)) (fun _ h=>h) hr
 have hv:repA (w1.alloc (.cells cells t)) N lc (.one (.ar true t e xs)) (.slice (some ⟨w.heap.size,0,none⟩) xs.length cap) (add (Am.one w.heap.size) G1):=by
  simp only[repA,repT,repC]
  exact .inr ⟨w.heap.size,cap,cells,G1,rfl,hnew,hcap,hmax,hcs,hrow,rfl⟩
 have h2:Hold (w1.alloc (.cells cells t)) N lc σ tmps (own F w.heap.size) (add fz (add (Am.one w.heap.size) G1)):=by
  have:add fz (add (Am.one w.heap.size) G1)=add (Am.one w.heap.size) (add fz G1):=by funext x; simp only[add,fz]; omega
  rw[this]; exact h1
 refine⟨_,_,_,N,lc,own F w.heap.size,hrun,.inl rfl,⟨fun b=>?_,fun b hb=>?_,fun b hb=>?_⟩,y0j h2 hv hd,⟨hos,hta,hou,by rw[hsz']; omega,fun b hb _=>hgrow b hb,fun b hb=>?_,fun _ h=>h,fun _ h=> .inl h,fun _ _=>rfl⟩⟩
 ·unfold own; split
  ·exact Nat.le_refl _
  ·exact hB.one b
 ·unfold own at hb
  rw[hsz']
  split at hb
  ·omega
  ·have:=hB.lt b hb; omega
 ·have:=hB.nb b hb
  unfold own
  rw[hsz',if_neg (by omega)]
  exact⟨this.1,by omega⟩
 ·unfold own at hb
  split at hb
  ·right; omega
  ·exact .inl hb
theorem s0c {e:Nat} {z:List C} {zv:List Value} (hz:z0d w N z zv fz) (hl:z.length=e): ∀(n:Nat) (vs:List Value),vs.length=n*e→(∀j,j<n*e→vs[j]?=zv[j % e]?)→z09 w N e (List.replicate n z) vs fz
 | 0,vs,h,_=>by
   have:vs=[]:=List.eq_nil_of_length_eq_zero (by simpa using h)
   subst this
   simp[z09]
 | n+1,vs,h,hj=>by
   have hzl:=y01 hz
   rw[Nat.add_mul,Nat.one_mul] at h
   have h1:vs.take e=zv:=by
    apply List.ext_getElem?
    intro k
    rw[List.getElem?_take]
    split
    ·rename_i hk
     rw[hj k (by rw[Nat.add_mul,Nat.one_mul]; omega),Nat.mod_eq_of_lt hk]
    ·rw[List.getElem?_eq_none (by omega)]
   have h2:z09 w N e (List.replicate n z) (vs.drop e) fz:=by
    refine s0c hz hl n _ (by rw[List.length_drop]; omega) fun j hjn=>?_
    rw[List.getElem?_drop,hj (e+j) (by rw[Nat.add_mul,Nat.one_mul]; omega),Nat.add_mod_left]
   simp only[List.replicate_succ,z09]
   exact⟨zv,vs.drop e,fz,fz,by rw[← h1,List.take_append_drop],hl,(z0g _).symm,hz,h2⟩
theorem m13 {o:Oper} {d:Option Nat} {t el e by_:Nat} {z:List C} {l c:X} {l0 c0:Operand} {i:TypeInfo} {zv:Value} (ho:o.op = .makeSlice t l0 c0) (hl:XOf l l0) (hc:XOf c c0) (ht:P.underlying t=some (.slice el)) (hi:P.info? el=some i) (hz:i.zero=some zv)
 (hs:i.size=e) (hby:i.bytes=by_) (hby2:by_≤16384) (he:0<e) (h: ∃σ1,runM d (.mks el e by_ z l c) σ=some σ1) (hh:Hold w N lc σ tmps F fz) :
 ∃v ob,(execOp (Act.mk tmps ds).eval o).run P w = .ok (.value v) (w.alloc ob):=by
 obtain⟨σ1,h⟩:=h
 simp only[runM] at h
 split at h
 case h_2=>cases h
 rename_i kl lv kc cv hel hec
 obtain⟨G1,hr1,_⟩:=y0r (ds:=ds) hl hel hh
 obtain⟨G2,hr2,_⟩:=y0r (ds:=ds) hc hec hh
 split at h
 case isFalse=>cases h
 rename_i hcond
 obtain⟨h1,h2,h3⟩:=hcond
 have hbytes:(i.bytes:Int)*cv≤281474976710656:=by
  rw[hby]
  have h4:(by_:Int)≤16384:=by omega
  have h5:(by_:Int)*cv≤16384*cv:=Int.mul_le_mul_of_nonneg_right h4 (by omega)
  omega
 have hrun:=run_make (P:=P) w t el i zv ht hi hz kl kc lv cv h1 h2 hbytes (by omega)
 exact⟨_,_,by simp only[execOp,ho,hr1.1,hr2.1,Sem.run_bind,hrun,Result.andThen_ok,Sem.run_pure]; rfl⟩
theorem a1j {o:Oper} {t el e by_:Nat} {z:List C} {l c:X} {l0 c0:Operand} {i:TypeInfo} {zv:Value} (ho:o.op = .makeSlice t l0 c0) (hl:XOf l l0) (hc:XOf c c0) (ht:P.underlying t=some (.slice el)) (hi:P.info? el=some i) (hz:i.zero=some zv)
 (hs:i.size=e) (hby:i.bytes=by_) (hby2:by_≤16384) (hzl:z.length=e) (he:0<e) (hzr: ∀(w:World) (N:Nat→Prop),z0d w N z zv.cells.toList fz) (hd: ∀k,o.dst=some k→k<tmps.size)
 (h:runM o.dst (.mks el e by_ z l c) σ=some σ1) (hB:Base w N F) (hh:Hold w N lc σ tmps F fz):MOk P w N lc tmps ds F o σ1:=by
 simp only[runM] at h
 split at h
 case h_2=>cases h
 rename_i kl lv kc cv hel hec
 obtain⟨G1,hr1,_⟩:=y0r (ds:=ds) hl hel hh
 obtain⟨G2,hr2,_⟩:=y0r (ds:=ds) hc hec hh
 split at h
 case isFalse=>cases h
 rename_i hcond
 obtain⟨h1,h2,h3⟩:=hcond
 simp only[Option.some.injEq] at h
 subst h
 have hbytes:(i.bytes:Int)*cv≤281474976710656:=by
  rw[hby]
  have h4:(by_:Int)≤16384:=by omega
  have h5:(by_:Int)*cv≤16384*cv:=Int.mul_le_mul_of_nonneg_right h4 (by omega)
  omega
 have hrun:=run_make (P:=P) w t el i zv ht hi hz kl kc lv cv h1 h2 hbytes (by omega)
 have hzcl:zv.cells.size=e:=by have:=y01 (hzr w N); simpa [hzl] using this
 refine m0y (w1:=w) (cap:=cv.toNat) (cells:=madeCells zv.cells (cv.toNat*e)) (G1:=fz) (fun _ _=>rfl) rfl rfl rfl rfl ?_ hd (by rw[List.length_replicate]; omega) (by simp only[maxLen]; omega) (size_madeCells _ _) ?_ hB (by rw[z0g]; exact hh)
 ·rw[List.length_replicate]
  simp only[execOp,ho,hr1.1,hr2.1,Sem.run_bind,hrun,Result.andThen_ok,Sem.run_pure,hs]
 ·rw[List.length_replicate]
  have hle:lv.toNat*e≤cv.toNat*e:=Nat.mul_le_mul_right _ (by omega)
  refine s0c (hzr w N) hzl _ _ (by rw[List.length_take,Array.length_toList,size_madeCells]; omega) fun j hj=>?_
  rw[List.getElem?_take,if_pos hj]
  have hjm:j % e<zv.cells.size:=by rw[hzcl]; exact Nat.mod_lt _ he
  simp only[madeCells,Array.toList_map,List.getElem?_map,Array.toList_range]
  rw[List.getElem?_range (by omega)]
  simp only[Option.map_some,hzcl]
  rw[getElem!_pos zv.cells (j % e) hjm,Array.getElem?_toList,Array.getElem?_eq_getElem hjm]
theorem m08 {e:Nat}: ∀(vs:List Value) (k:Nat) (cells:Array Value),(∀v∈vs,v.cells.size=e)→cells.size=(k+vs.length)*e→
 Instr.fill (fun i=>some (i*e,e)) cells ((vs.zipIdx k).map fun (v,i)=>(i,v))=some (cells.toList.take (k*e) ++ (vs.map (·.cells.toList)).flatten).toArray
 | [],k,cells,_,hs=>by
   simp only[List.zipIdx_nil,List.map_nil,Instr.fill,List.flatten_nil,List.append_nil]
   rw[List.take_of_length_le (by simp[hs])]
 | v :: vs,k,cells,hv,hs=>by
   have hv0:=hv v (List.mem_cons_self ..)
   have hfit:k*e+e≤cells.size:=by
    rw[hs,List.length_cons]
    have:(k+1)*e≤(k+(vs.length+1))*e:=Nat.mul_le_mul_right _ (by omega)
    rw[Nat.add_mul,Nat.one_mul] at this
    exact this
   have hset: ∀(us:List Value) (j:Nat) (cs:Array Value),k*e+j+us.length≤cs.size→
    (us.zipIdx j).foldl (fun cs (x:Value×Nat)=>cs.setIfInBounds (k*e+x.2) x.1) cs=(cs.toList.take (k*e+j) ++ us ++ cs.toList.drop (k*e+j+us.length)).toArray:=by
    intro us
    induction us with
    | nil=>intro j cs _; simp
    | cons u us ih=>
      intro j cs hj
      simp only[List.zipIdx_cons,List.foldl_cons]
      rw[ih (j+1) _ (by simp at hj ⊢; omega)]
      apply Array.ext'
      simp only[Array.toList_setIfInBounds]
      have hlt:k*e+j<cs.toList.length:=by simp at hj ⊢; omega
      apply List.ext_getElem?
      intro q
      simp only[List.getElem?_append,List.getElem?_take,List.getElem?_set,List.getElem?_drop,List.length_append,List.length_take,List.length_set,List.length_cons,List.length_nil]
      have hcl:cs.toList.length=cs.size:=Array.length_toList
      simp only[hcl] at hlt ⊢
      simp only[List.length_cons] at hj
      have e1:min (k*e+(j+1)) cs.size=k*e+j+1:=by omega
      have e2:min (k*e+j) cs.size=k*e+j:=by omega
      simp only[e1,e2]
      by_cases q1:q<k*e+j
      ·simp[show q<k*e+j+1+us.length from by omega,show q<k*e+j+1 from by omega,show q<k*e+(j+1) from by omega,show q<k*e+j+(us.length+1) from by omega,q1,show ¬k*e+j=q from by omega]
      ·by_cases q2:q=k*e+j
       ·subst q2
        simp[show k*e+j<k*e+j+1+us.length from by omega,show k*e+j<k*e+(j+1) from by omega,show k*e+j<k*e+j+(us.length+1) from by omega,hlt]
       ·by_cases q3:q<k*e+j+1+us.length
        ·simp[q3,show ¬q<k*e+j+1 from by omega,show q<k*e+j+(us.length+1) from by omega,q1]
         rw[show q - (k*e+j)=q - (k*e+j+1)+1 from by omega,List.getElem?_cons_succ]
        ·simp[q3,show ¬q<k*e+j+(us.length+1) from by omega]
         rw[if_neg (by omega)]
         congr 1; omega
   simp only[List.zipIdx_cons,List.map_cons,Instr.fill]
   rw[if_neg (by simp[hv0]; omega)]
   have hz:(v.cells.zipIdx.foldl (fun cs (x:Value×Nat)=>cs.setIfInBounds (k*e+x.2) x.1) cells)=(cells.toList.take (k*e) ++ v.cells.toList ++ cells.toList.drop (k*e+e)).toArray:=by
    rw[← Array.foldl_toList,Array.toList_zipIdx]
    have:=hset v.cells.toList 0 cells (by simp[hv0]; omega)
    simpa [hv0] using this
   have hz':(v.cells.zipIdx.foldl (fun cs x=>match x with | (c,j)=>cs.setIfInBounds (k*e+j) c) cells)=(cells.toList.take (k*e) ++ v.cells.toList ++ cells.toList.drop (k*e+e)).toArray:=hz
   rw[hz',m08 vs (k+1) _ (fun x hx=>hv x (List.mem_cons_of_mem _ hx)) (by
    simp only[List.size_toArray,List.length_append,List.length_take,List.length_drop,Array.length_toList,hv0]
    rw[List.length_cons] at hs
    rw[show k+1+vs.length=k+(vs.length+1) from by omega,← hs]
    omega)]
   congr 2
   rw[List.flatten_cons,← List.append_assoc]
   congr 1
   rw[Nat.add_mul,Nat.one_mul]
   simp only[List.toList_toArray]
   rw[List.take_append_of_le_length (by simp[hv0]; omega),List.take_of_length_le (by simp[hv0]; omega)]
theorem n07 {fzm:Bool} {e:Nat}: ∀{xs:List X} {os:List Operand} {rs:List (List C)} {σ σ1:St} {N:Nat→Prop} {F G:Fp},u0b fzm e σ xs=some (rs,σ1)→XL xs os→Base w N F→Hold w N lc σ tmps F G→
 ∃N' F' G',(∀o∈os,((Act.mk tmps ds).eval o).cells.size=e)∧rs.length=os.length∧z09 w N' e rs (os.map fun o=>((Act.mk tmps ds).eval o).cells.toList).flatten G'∧Base w N' F'∧Hold w N' lc σ1 tmps F' (add G G')∧Fr w F N lc w F' N' lc
 | [],os,rs,σ,σ1,N,F,G,h,hx,hB,hh=>by
   cases os with
   | cons=>exact hx.elim
   | nil=>
     simp only[u0b,Option.some.injEq,Prod.mk.injEq] at h
     obtain⟨rfl,rfl⟩:=h
     exact⟨N,F,fz,by simp,rfl,by simp[z09],hB,by rw[z0g]; exact hh,Fr.refl ..⟩
 | x :: xs,os,rs,σ,σ1,N,F,G,h,hx,hB,hh=>by
   cases os with
   | nil=>exact hx.elim
   | cons o os=>
     simp only[u0b] at h
     cases hs:r0k fzm σ x with
     | none=>rw[hs] at h; simp at h
     | some y=>
       obtain⟨cs,σ2⟩:=y
       rw[hs] at h
       simp only at h
       split at h
       case isFalse=>cases h
       rename_i hcs
       cases hs2:u0b fzm e σ2 xs with
       | none=>rw[hs2] at h; simp at h
       | some y=>
         obtain⟨rs2,σ3⟩:=y
         rw[hs2] at h
         simp only[Option.some.injEq,Prod.mk.injEq] at h
         obtain⟨rfl,rfl⟩:=h
         obtain⟨vs,N1,F1,G1,hv,hr,hB1,hH1,hFr1⟩:=o05 (ds:=ds) hx.1 hs hB hh
         obtain⟨N2,F2,G2,hsz,hlen,hrs,hB2,hH2,hFr2⟩:=n07 hs2 hx.2 hB1 hH1
         refine⟨N2,F2,add G1 G2,?_,by simp[hlen],?_,hB2,by rw[← add_assoc]; exact hH2,hFr1.trans hFr2⟩
         ·intro o' ho'
          rcases List.mem_cons.1 ho' with rfl | ho'
          ·rw[hv]; have:=y01 hr; simp[this,hcs]
          ·exact hsz o' ho'
         ·simp only[List.map_cons,List.flatten_cons,z09]
          exact⟨_,_,G1,G2,rfl,hcs,rfl,by rw[hv]; exact y0n cs vs G1 (fun _ _=>rfl) hFr2.nn hr,hrs⟩
theorem f17 {o:Oper} {t el e:Nat} {fzm:Bool} {os:List Operand} {xs:List X} {i:TypeInfo} {zv:Value} (ho:o.op = .buildSlice t os.length (os.zipIdx.map fun (o,i)=>(i,o)).toArray) (ht:P.underlying t=some (.slice el)) (hi:P.info? el=some i) (hz:i.zero=some zv)
 (hs:i.size=e) (hzs:zv.cells.size=e) (hn:os.length≤4096) (he:e≤4096) (hx:XL xs os) (hd: ∀k,o.dst=some k→k<tmps.size) {rs:List (List C)} (h:u0b fzm e σ xs=some (rs,σ1)) (hB:Base w N F) (hh:Hold w N lc σ tmps F fz) :
 MOk P w N lc tmps ds F o (setT σ1 o.dst (.one (.ar true el e rs))):=by
 obtain⟨N',F',G',hsz,hlen,hrs,hB',hH',hFr⟩:=n07 (ds:=ds) h hx hB hh
 have hvsz: ∀v∈os.map (Act.mk tmps ds).eval,v.cells.size=e:=by
  intro v hv
  obtain⟨o',ho',rfl⟩:=List.mem_map.1 hv
  exact hsz o' ho'
 have hmul: ¬os.length*e>16777216:=by
  have:os.length*e≤4096*4096:=Nat.mul_le_mul hn he
  omega
 have hcl:(os.map fun o=>((Act.mk tmps ds).eval o).cells.toList).flatten.length=os.length*e:=by
  have:=w0g hrs
  rw[this,hlen]
 have hparts:((os.zipIdx.map fun (o,i)=>(i,o)).toArray.map fun (i,x)=>(i,(Act.mk tmps ds).eval x)).toList=((os.map (Act.mk tmps ds).eval).zipIdx 0).map fun (v,i)=>(i,v):=by
  simp only[Array.toList_map,List.map_map]
  rw[List.zipIdx_map,List.map_map]
  rfl
 have hrun:(execOp (Act.mk tmps ds).eval o).run P w = .ok (.value (.slice (some ⟨w.heap.size,0,none⟩) rs.length os.length)) (w.alloc (.cells (os.map fun o=>((Act.mk tmps ds).eval o).cells.toList).flatten.toArray el)):=by
  by_cases h0:os.length*e=0
  ·have hfill:=m08 (e:=e) (os.map (Act.mk tmps ds).eval) 0 ((Array.range (os.length*e)).map ((#[]:Array Value)[· % (#[]:Array Value).size]!)) hvsz (by simp)
   simp only[Nat.zero_mul,List.take_zero,List.nil_append,List.map_map] at hfill
   simp only[execOp,ho,Instr.buildSlice,Sem.run_bind,run_underlying ht,Result.andThen_ok,sizeOf,typeInfo,run_program,hi,Sem.run_pure,hs,hlen,Sem.run_ite,if_neg hmul,if_pos h0,hparts,hfill,newRow,run_newObj_alloc]
   rfl
  ·have hfill:=m08 (e:=e) (os.map (Act.mk tmps ds).eval) 0 ((Array.range (os.length*e)).map (zv.cells[· % zv.cells.size]!)) hvsz (by simp)
   simp only[Nat.zero_mul,List.take_zero,List.nil_append,List.map_map] at hfill
   simp only[execOp,ho,Instr.buildSlice,Sem.run_bind,run_underlying ht,Result.andThen_ok,sizeOf,typeInfo,run_program,hi,Sem.run_pure,hs,hlen,Sem.run_ite,if_neg hmul,if_neg h0,zeroValue,hz,hparts,hfill,newRow,run_newObj_alloc]
   rfl
 obtain⟨r,v,w',N2,lc',F2,h1,h2,h3,h4,h5⟩:=m0y (P:=P) (ds:=ds) (e:=e) (w1:=w) (fun _ _=>rfl) rfl rfl rfl rfl hrun hd (by omega) (by simp only[maxLen]; omega) (by simp[hcl]) (by
  rw[List.take_of_length_le (by rw[hcl,hlen]; exact Nat.le_refl _)]; exact hrs) hB' hH'
 exact⟨r,v,w',N2,lc',F2,h1,h2,h3,h4,hFr.trans h5⟩
end
end Go.Am
namespace Go.Am
section
variable {P:Program} {w:World} {N:Nat→Prop} {lc:Loc} {tmps:Array Value} {ds:List Deferred} {F G:Fp} {σ σ1:St}
theorem g0m: ∀(us:List Value) (j off:Nat) (cs:List Value),off+j+us.length≤cs.length→
 (us.zipIdx j).foldl (fun (a:Array Value) (c:Value×Nat)=>a.setIfInBounds (off+c.2) c.1) cs.toArray=(cs.take (off+j) ++ us ++ cs.drop (off+j+us.length)).toArray
 | [],j,off,cs,h=>by simp
 | u :: us,j,off,cs,h=>by
   simp only[List.length_cons] at h
   simp only[List.zipIdx_cons,List.foldl_cons,List.setIfInBounds_toArray]
   rw[g0m us (j+1) off _ (by simp; omega)]
   congr 1
   apply List.ext_getElem?
   intro k
   simp only[List.getElem?_append,List.length_append,List.length_take,List.length_set,List.getElem?_take,List.getElem?_set,List.getElem?_drop,List.length_cons]
   have h1:min (off+(j+1)) cs.length=off+j+1:=by omega
   have h2:min (off+j) cs.length=off+j:=by omega
   rw[h1,h2]
   rcases Nat.lt_trichotomy k (off+j) with hk | hk | hk
   ·rw[if_pos (by omega),if_pos (by omega),if_pos (by omega),if_neg (by omega),if_pos (by omega),if_pos (by omega),if_pos (by omega)]
   ·subst hk
    rw[if_pos (by omega),if_pos (by omega),if_pos (by omega),if_pos rfl,if_pos (by omega),if_pos (by omega),if_neg (by omega)]
    simp
   ·by_cases h3:k<off+j+1+us.length
    ·rw[if_pos (by omega),if_neg (by omega),if_pos (by omega),if_neg (by omega)]
     rw[show k - (off+j)=(k - (off+j+1))+1 by omega,List.getElem?_cons_succ]
    ·rw[if_neg (by omega),if_neg (by omega),if_neg (by omega)]
     congr 1
     omega
theorem a0g {pl:Nat→Option (Nat×Nat)} {fzm:Bool}: ∀{ps':List (Nat×Nat×X)} {ps:List (Nat×Operand)} {cs cs':List C} {vs:List Value} {G0:Fp} {σ σ1:St} {N:Nat→Prop} {F:Fp},
 v0x fzm σ cs ps'=some (cs',σ1)→PL pl ps' ps→z0d w N cs vs G0→Base w N F→Hold w N lc σ tmps F (add fz G0)→
 ∃vs' N' F' G',Instr.fill pl vs.toArray (ps.map fun (i,x)=>(i,(Act.mk tmps ds).eval x))=some vs'.toArray∧z0d w N' cs' vs' G'∧Base w N' F'∧Hold w N' lc σ1 tmps F' (add fz G')∧Fr w F N lc w F' N' lc
 | [],ps,cs,cs',vs,G0,σ,σ1,N,F,h,hx,hr,hB,hh=>by
   cases ps with
   | cons=>exact hx.elim
   | nil=>
     simp only[v0x,Option.some.injEq,Prod.mk.injEq] at h
     obtain⟨rfl,rfl⟩:=h
     exact⟨vs,N,F,G0,rfl,hr,hB,hh,Fr.refl ..⟩
 | (off,n,x) :: ps',ps,cs,cs',vs,G0,σ,σ1,N,F,h,hx,hr,hB,hh=>by
   cases ps with
   | nil=>exact hx.elim
   | cons q ps=>
     obtain⟨i,o⟩:=q
     obtain⟨hpl,hxo,hps⟩:=hx
     simp only[v0x] at h
     cases hs:r0k fzm σ x with
     | none=>rw[hs] at h; simp at h
     | some y=>
       obtain⟨r,σ2⟩:=y
       rw[hs] at h
       simp only at h
       split at h
       case isFalse=>cases h
       rename_i hc
       obtain⟨hc1,hc2⟩:=hc
       obtain⟨us,N1,F1,G1,hv,hr1,hB1,hH1,hFr1⟩:=o05 (ds:=ds) hxo hs hB hh
       have hr0:z0d w N1 cs vs G0:=y0n cs vs G0 (fun _ _=>rfl) hFr1.nn hr
       have hlen:=y01 hr0
       have hlu:=y01 hr1
       obtain⟨Ga,Gb,hGe,_,hset⟩:=j0t (f:=off) (n:=n) hr0 (by omega)
       have hnew:=hset w N1 r us G1 hc1 (fun _ _=>rfl) (fun _ h=>h) hr1
       have hH2:Hold w N1 lc σ2 tmps F1 (add fz (add G1 Gb)):=by
        obtain⟨Ft,Fo,h1,h2,h3⟩:=hH1
        refine⟨Ft,Fo,fun b=>?_,h2,h3⟩
        have:=h1 b
        rw[hGe] at this
        simp only[add,fz] at *
        omega
       have hfill:Instr.fill pl vs.toArray (((i,o) :: ps).map fun (i,x)=>(i,(Act.mk tmps ds).eval x))=Instr.fill pl (vs.take off ++ us ++ vs.drop (off+n)).toArray (ps.map fun (i,x)=>(i,(Act.mk tmps ds).eval x)):=by
        simp only[List.map_cons,Instr.fill,hpl,hv]
        have hcnd:(us.toArray.size≠n || decide (off+us.toArray.size>vs.toArray.size))=false:=by
         simp; omega
        rw[if_neg (by simpa using hcnd)]
        congr 1
        have hz:=g0m us 0 off vs (by omega)
        simp only[Nat.add_zero] at hz
        rw[show off+us.length=off+n by omega] at hz
        rw[← hz]
        rw[← Array.foldl_toList,Array.toList_zipIdx]
       obtain⟨vs',N',F',G',k1,k2,k3,k4,k5⟩:=a0g h hps hnew hB1 hH2
       exact⟨vs',N',F',G',by rw[hfill]; exact k1,k2,k3,k4,hFr1.trans k5⟩
theorem f15 {o:Oper} {t:Nat} {fzm:Bool} {z:List C} {ps:List (Nat×Operand)} {ps':List (Nat×Nat×X)} {i:TypeInfo} {zv:Value} {pl:Nat→Option (Nat×Nat)} (ho:o.op = .build t ps.toArray) (hi:P.info? t=some i) (hz:i.zero=some zv)
 (hzr: ∀(w:World) (N:Nat→Prop),z0d w N z zv.cells.toList fz) (hpl:x1l P t pl) (hps:PL pl ps' ps) (hd: ∀k,o.dst=some k→k<tmps.size) {cs:List C} (h:v0x fzm σ z ps'=some (cs,σ1)) (hB:Base w N F) (hh:Hold w N lc σ tmps F fz) :
 MOk P w N lc tmps ds F o (setT σ1 o.dst (.agg cs)):=by
 obtain⟨vs',N',F',G',k1,k2,k3,k4,k5⟩:=a0g (ds:=ds) h hps (hzr w N) hB (by rw[z0g]; exact hh)
 have hrun:(execOp (Act.mk tmps ds).eval o).run P w = .ok (.value (.agg vs'.toArray)) w:=by
  have hparts:(ps.toArray.map fun (i,x)=>(i,(Act.mk tmps ds).eval x)).toList=ps.map fun (i,x)=>(i,(Act.mk tmps ds).eval x):=by simp
  have hzc:zv.cells.toList.toArray=zv.cells:=by simp
  rw[hzc] at k1
  have hb:P.built t (ps.map fun (i,x)=>(i,(Act.mk tmps ds).eval x))=some vs'.toArray:=by
   rcases hpl with⟨fs,pp,h1,h2,h3⟩ | ⟨n,el,e,h1,⟨i2,h2,rfl⟩,h3⟩
   ·have:pl=(pp.toArray[·]?):=funext h3
    rw[this] at k1
    simp only[Program.built,hi,h1,hz,h2]
    exact k1
   ·have:pl=(fun j=>some (j*i2.size,i2.size)):=funext h3
    rw[this] at k1
    simp only[Program.built,hi,h1,hz,h2]
    exact k1
  have:=run_build (P:=P) w t (ps.toArray.map fun (i,x)=>(i,(Act.mk tmps ds).eval x)) vs'.toArray (by rw[hparts]; exact hb)
  simp only[execOp,ho,Sem.run_bind,this,Result.andThen_ok,Sem.run_pure]
 refine⟨_,_,w,N',lc,F',hrun,.inl rfl,k3,?_,k5⟩
 exact y0j (ds:=ds) k4 (show repA w N' lc (.agg cs) _ G' from⟨vs',rfl,s0n k2⟩) hd
end
end Go.Am
namespace Go.Am
section
variable {P:Program} {w:World} {N:Nat→Prop} {lc:Loc} {tmps:Array Value} {ds:List Deferred} {F G:Fp} {σ σ1 σ2:St}
theorem j0s: ∀{cs:List C} {vs:List Value} {F:Fp},t0r cs=false→z0d w N cs vs F→F=fz
 | [],_,_,_,h=>by simp only[z0d] at h; exact h.2
 | c :: cs,_,_,ha,h=>by
   simp only[z0d] at h
   obtain⟨v,vs',F1,F2,_,rfl,h1,h2⟩:=h
   simp only[t0r,Bool.or_eq_false_iff] at ha
   rw[s0l ha.1 h1,j0s ha.2 h2,z0g]
theorem l0k {e:Nat}: ∀{xs:List (List C)} {vs:List Value} {F:Fp},q0g xs=false→z09 w N e xs vs F→F=fz
 | [],_,_,_,h=>by simp only[z09] at h; exact h.2
 | c :: cs,_,_,ha,h=>by
   simp only[z09] at h
   obtain⟨v1,v2,F1,F2,_,_,rfl,h1,h2⟩:=h
   simp only[q0g,Bool.or_eq_false_iff] at ha
   rw[j0s ha.1 h1,l0k ha.2 h2,z0g]
theorem w08 {e:Nat}: ∀{xs ys:List (List C)} {us vs:List Value} {F1 F2:Fp},z09 w N e xs us F1→z09 w N e ys vs F2→z09 w N e (xs ++ ys) (us ++ vs) (add F1 F2)
 | [],ys,us,vs,F1,F2,h,k=>by
   simp only[z09] at h
   obtain⟨rfl,rfl⟩:=h
   simpa [v0c] using k
 | x :: xs,ys,us,vs,F1,F2,h,k=>by
   simp only[z09] at h
   obtain⟨v1,v2,G1,G2,rfl,hl,rfl,h1,h2⟩:=h
   simp only[List.cons_append,z09]
   exact⟨v1,v2 ++ vs,G1,add G2 F2,by simp,hl,add_assoc ..,h1,w08 h2 k⟩
theorem h0y {x:X} {x0:Operand} {a:A} (hx:XOf x x0) (h:e0s σ x=some (a,σ1)) (hh:Hold w N lc σ tmps F fz) :
 ∃G1,repA w N lc a ((Act.mk tmps ds).eval x0) G1∧Hold w N lc σ1 tmps F G1:=by
 unfold e0s at h
 cases ht:v06 σ x with
 | none=>rw[ht] at h; simp at h
 | some y=>
   obtain⟨a0,σ0⟩:=y
   rw[ht] at h
   simp only at h
   obtain⟨G1,hr,hH,_,hna⟩:=y0w (ds:=ds) hx ht hh
   rw[v0c] at hH
   by_cases haff:a0.aff=true
   ·have:p0f σ0 a0=some (a0,σ0):=by
     cases a0 with
     | one c=>cases c <;> simp[A.aff,C.aff] at haff <;> rfl
     | agg=>rfl
     | tup=>rfl
    rw[this] at h
    simp only[Option.some.injEq,Prod.mk.injEq] at h
    obtain⟨rfl,rfl⟩:=h
    exact⟨G1,hr,hH⟩
   ·have haff:a0.aff=false:=by simpa using haff
    obtain⟨rfl,rfl⟩:=hna haff
    obtain⟨G2,h1,h2⟩:=n0m h haff hr hH
    exact⟨G2,h1,by rwa [v0c] at h2⟩
theorem t1f {c:C} {v:Value} {F:Fp} (h:repC w N c v F): ∃F0,(∀b,F0 b=0)∧repC w N (z1s c) v F0:=by
 unfold z1s
 split
 ·rename_i ha
  refine⟨fz,fun _=>rfl,rfl,?_⟩
  cases c with
  | ar own t e xs=>
    cases own with
    | true=>exact h15 h
    | false=>simp[C.aff] at ha
  | op=>exact t0p h
  | _=>simp[C.aff] at ha
 ·rename_i ha
  have:=s0l (by simpa using ha) h
  subst this
  exact⟨fz,fun _=>rfl,h⟩
theorem l0j: ∀{cs:List C} {vs:List Value} {F:Fp},z0d w N cs vs F→z0d w N (cs.map z1s) vs fz
 | [],_,_,h=>by simp only[z0d] at h; simp only[List.map_nil,z0d,and_true]; exact h.1
 | c :: cs,vs,F,h=>by
   simp only[z0d] at h
   obtain⟨v,vs,F1,F2,rfl,rfl,h1,h2⟩:=h
   obtain⟨F0,hz,h3⟩:=t1f h1
   have:F0=fz:=funext hz
   subst this
   simp only[List.map_cons,z0d]
   exact⟨v,vs,fz,fz,rfl,(z0g _).symm,h3,l0j h2⟩
theorem n04 {e:Nat}: ∀{xs:List (List C)} {vs:List Value} {F:Fp},z09 w N e xs vs F→z09 w N e (xs.map (List.map z1s)) vs fz
 | [],_,_,h=>by simp only[z09] at h; simp only[List.map_nil,z09,and_true]; exact h.1
 | r :: rs,_,_,h=>by
   simp only[z09] at h
   obtain⟨v1,v2,F1,F2,rfl,hl,rfl,h1,h2⟩:=h
   simp only[List.map_cons,z09]
   exact⟨v1,v2,fz,fz,rfl,by simpa using hl,(z0g _).symm,l0j h1,n04 h2⟩
theorem q0z {e:Nat}: ∀{xs ys:List (List C)} {vs:List Value} {F:Fp},z09 w N e (xs ++ ys) vs F→∃us ws F1 F2,vs=us ++ ws∧F=add F1 F2∧us.length=xs.length*e∧z09 w N e xs us F1∧z09 w N e ys ws F2
 | [],ys,vs,F,h=>⟨[],vs,fz,F,rfl,(v0c _).symm,by simp,by simp[z09],h⟩
 | x :: xs,ys,vs,F,h=>by
   simp only[List.cons_append,z09] at h
   obtain⟨v1,v2,F1,F2,rfl,hl,rfl,h1,h2⟩:=h
   obtain⟨us,ws,F3,F4,rfl,rfl,hl2,h3,h4⟩:=q0z h2
   exact⟨v1 ++ us,ws,add F1 F3,F4,by simp,(add_assoc ..).symm,by have:=y01 h1; simp only[List.length_append,List.length_cons,hl2,Nat.succ_mul]; omega,by simp only[z09]; exact⟨v1,us,F1,F3,rfl,hl,rfl,h1,h3⟩,h4⟩
theorem e08 {e lo n:Nat} {xs:List (List C)} {vs:List Value} {F:Fp} (hn:lo+n≤xs.length) (h:z09 w N e xs vs F) :
 ∃F1 F2,F=add F1 F2∧z09 w N e ((xs.drop lo).take n) ((vs.drop (lo*e)).take (n*e)) F1∧z09 w N e (w00 xs lo n) vs F2:=by
 have hx:xs=xs.take lo ++ ((xs.drop lo).take n ++ xs.drop (lo+n)):=by
  rw[← List.drop_drop,List.take_append_drop,List.take_append_drop]
 rw[hx] at h
 obtain⟨us,ws,F1,F2,rfl,rfl,hl1,h1,h2⟩:=q0z h
 obtain⟨us2,ws2,F3,F4,rfl,rfl,hl2,h3,h4⟩:=q0z h2
 have l1:(xs.take lo).length=lo:=by rw[List.length_take]; omega
 have l2:((xs.drop lo).take n).length=n:=by rw[List.length_take,List.length_drop]; omega
 rw[l1] at hl1
 rw[l2] at hl2
 have e1:((us ++ (us2 ++ ws2)).drop (lo*e)).take (n*e)=us2:=by
  rw[← hl1,List.drop_left,← hl2,List.take_left]
 refine⟨F3,add F1 F4,?_,by rw[e1]; exact h3,?_⟩
 ·funext b; simp only[add]; omega
 ·unfold w00
  rw[List.append_assoc]
  refine w08 h1 ?_
  have:=w08 (n04 h3) h4
  rwa [v0c] at this
theorem x1a {t e0 id lo n:Nat} {st:Path} {v:Value} {o1 o2:Obj} (hlo:look σ.ob id=some o1) (hga:getA o1.t o1.e o1.xs st=some o2) (he:o2.e=e0) (hln:lo+n≤o2.xs.length)
 (hr:repA w N lc (.one (.vw t e0 id st lo n)) v fz) (hh:Hold w N lc σ tmps F G) :
 ∃(A:Option Addr) (c:Nat) (vals:List Value) (G2:Fp),v = .slice A ((o2.xs.drop lo).take n).length c∧z09 w N e0 ((o2.xs.drop lo).take n) vals G2∧
  Hold w N lc { tm:=σ.tm,ob:=put σ.ob id ⟨o1.t,o1.e,setA o1.xs st (w00 o2.xs lo n)⟩ } tmps F (add G G2)∧(A=none→((o2.xs.drop lo).take n)=[])∧
  (((o2.xs.drop lo).take n)≠[]→∃ad,A=some ad∧∀j u,vals[j]?=some u→w.cell? (ad.add j)=some u):=by
 have hlen:((o2.xs.drop lo).take n).length=n:=by rw[List.length_take,List.length_drop]; omega
 have hklen:(w00 o2.xs lo n).length=o2.xs.length:=by simp[w00]; omega
 obtain⟨Ft,Fo,hle1,htm,hob⟩:=hh
 obtain⟨F1,F2,hleF,hO,hob2⟩:=y0d σ.ob Fo id o1 hlo hob
 obtain⟨l',F3,F4,hl',hO',rfl,hre⟩:=v0u st hO hga
 have hput: ∀{F5:Fp},repO w N l' o2.t o2.e (w00 o2.xs lo n) F5→∃Fo2,(∀b,Fo2 b≤F5 b+F4 b+F2 b)∧y03 w N lc (put σ.ob id ⟨o1.t,o1.e,setA o1.xs st (w00 o2.xs lo n)⟩) Fo2:=by
  intro F5 hk
  have h1:=hre w N _ F5 hklen (fun _ _=>rfl) (fun _ h=>h) hk
  obtain⟨Fo2,hle2,ho2⟩:=p0x (d:=id) (o:=⟨o1.t,o1.e,setA o1.xs st (w00 o2.xs lo n)⟩) h1 hob2
  exact⟨Fo2,fun b=>by have:=hle2 b; simpa only[add] using this,by simpa only[put,i0l] using ho2⟩
 rcases hO' with⟨hn',hnil⟩ | ⟨b',cap',cur,F',hl2,hb,hl,hc,hs',hrows,rfl⟩
 ·have hx:o2.xs=[]:=hnil
  have:n=0:=by rw[hx] at hln; simp at hln; omega
  subst this
  have hlo0:lo=0:=by rw[hx] at hln; simpa using hln
  subst hlo0
  have hkk:w00 o2.xs 0 0=o2.xs:=by simp[w00]
  obtain⟨Fo2,hle2,ho2⟩:=hput (F5:=F3) (by rw[hkk]; exact .inl ⟨hn',hnil⟩)
  have h0:Hold w N lc { tm:=σ.tm,ob:=put σ.ob id ⟨o1.t,o1.e,setA o1.xs st (w00 o2.xs 0 0)⟩ } tmps F (add G fz):=
   ⟨Ft,Fo2,fun b=>by have:=hle1 b; have:=hle2 b; have:=hleF b; simp only[add,fz] at *; omega,htm,ho2⟩
  obtain⟨_,⟨_,_,a0,hv⟩ | ⟨b,cap,ad,hres,hv,_,_,had⟩⟩:=hr
  ·exact⟨a0,0,[],fz,by simpa using hv,by simp[z09],h0,fun _=>by simp,fun h=>absurd (by simp) h⟩
  ·exact⟨some ad,cap - 0,[],fz,by simpa using hv,by simp[z09],h0,fun h=>by simp,fun h=>absurd (by simp) h⟩
 ·obtain⟨F5,F6,hF,hk1,hk2⟩:=e08 hln hrows
  have hk3:repO w N l' o2.t o2.e (w00 o2.xs lo n) (add (Am.one b') F6):= .inr ⟨b',cap',cur,F6,hl2,hb,by rw[hklen]; exact hl,hc,hs',by rw[hklen]; exact hk2,rfl⟩
  obtain⟨Fo2,hle2,ho2⟩:=hput hk3
  have h0:Hold w N lc { tm:=σ.tm,ob:=put σ.ob id ⟨o1.t,o1.e,setA o1.xs st (w00 o2.xs lo n)⟩ } tmps F (add G F5):=
   ⟨Ft,Fo2,fun b=>by have:=hle1 b; have:=hle2 b; have:=hleF b; have:=congrFun hF b; simp only[add,fz] at *; omega,htm,ho2⟩
  by_cases hn0:n=0
  ·subst hn0
   have hnil:(o2.xs.drop lo).take 0=[]:=by simp
   have h1:Hold w N lc { tm:=σ.tm,ob:=put σ.ob id ⟨o1.t,o1.e,setA o1.xs st (w00 o2.xs lo 0)⟩ } tmps F (add G fz):=
    ⟨Ft,Fo2,fun b=>by have:=hle1 b; have:=hle2 b; have:=hleF b; have:=congrFun hF b; simp only[add,fz] at *; omega,htm,ho2⟩
   rw[hnil]
   obtain⟨_,⟨_,_,a0,hv⟩ | ⟨b,cap,ad,hres,hv,_,_,had⟩⟩:=hr
   ·exact⟨a0,0,[],fz,hv,by simp[z09],h1,fun _=>rfl,fun h=>absurd rfl h⟩
   ·exact⟨some ad,cap - lo,[],fz,hv,by simp[z09],h1,fun _=>rfl,fun h=>absurd rfl h⟩
  ·obtain⟨_,⟨_,hn0',_,_⟩ | ⟨b,cap,ad,hres,hv,hle,hmx,had⟩⟩:=hr
   ·exact absurd hn0' hn0
   ·have hbb:b=b':=by
     rcases hl' with h | h
     ·rw[hl2] at h; cases h
     ·rw[hres,hl2] at h; injection h with h; injection h
    subst hbb
    have hlt:lo<cap:=by omega
    have:=had (.inr hlt)
    subst this
    rw[he] at hk1
    refine⟨_,cap - lo,_,F5,by rw[hlen]; exact hv,hk1,h0,(by simp),fun _=>⟨_,rfl,fun j u hj=>?_⟩⟩
    rw[x0i,y07 hb]
    rw[List.getElem?_take] at hj
    split at hj
    ·rw[List.getElem?_drop] at hj; exact w0c hj
    ·cases hj
theorem h0x {x:X} {x0:Operand} {e:Nat} {ys:List (List C)} (hx:XOf x x0) (h:p1i σ x=some (e,ys,σ1)) (hB:Base w N F) (hh:Hold w N lc σ tmps F G) :
 ∃(A:Option Addr) (c:Nat) (vals:List Value) (G2:Fp),(Act.mk tmps ds).eval x0 = .slice A ys.length c∧z09 w N e ys vals G2∧Hold w N lc σ1 tmps F (add G G2)∧(A=none→ys=[])∧
  (ys≠[]→∃ad,A=some ad∧∀j u,vals[j]?=some u→w.cell? (ad.add j)=some u):=by
 unfold p1i at h
 split at h
 ·rename_i own t e0 ys0 σ0 ht
  obtain⟨G1,hr,hH,_,_⟩:=y0w (ds:=ds) hx ht hh
  simp only[Option.some.injEq,Prod.mk.injEq] at h
  obtain⟨rfl,rfl,rfl⟩:=h
  cases own with
  | true=>
    simp only[repA,repT,repC] at hr
    rcases hr with⟨rfl,a0,hv⟩ | ⟨b,cap,cur,F',hv,hb,hl,hc,hs,hr,rfl⟩
    ·refine⟨a0,0,[],fz,hv,by simp[z09],?_,fun _=>rfl,fun h=>absurd rfl h⟩
     obtain⟨Ft,Fo,hle,ht,ho⟩:=hH
     exact⟨Ft,Fo,fun b=>by have:=hle b; simp only[add,fz] at *; omega,ht,ho⟩
    ·refine⟨_,cap,_,F',hv,hr,?_,(by simp),fun _=>⟨_,rfl,fun j u hj=>?_⟩⟩
     ·obtain⟨Ft,Fo,hle,ht,ho⟩:=hH
      exact⟨Ft,Fo,fun b=>by have:=hle b; simp only[add] at *; omega,ht,ho⟩
     ·rw[x0i,y07 hb,Nat.zero_add]
      exact w0c hj
  | false=>
    simp only[repA,repT,repC] at hr
    obtain⟨rfl,A,cap,hv,hl,hc,hne⟩:=hr
    by_cases hy:ys0=[]
    ·subst hy
     exact⟨A,cap,[],fz,hv,by simp[z09],hH,fun _=>rfl,fun h=>absurd rfl h⟩
    ·obtain⟨b,off,cur,ty,fr,rfl,hN,hb,hoff,hrows⟩:=hne hy
     refine⟨_,cap,_,fz,hv,hrows,hH,(by simp),fun _=>⟨_,rfl,fun j u hj=>?_⟩⟩
     rw[x0i,y07 hb]
     rw[List.getElem?_take] at hj
     split at hj
     ·rw[List.getElem?_drop] at hj; simpa using hj
     ·cases hj
 ·rename_i t e0 id st lo n σ0 ht
  obtain⟨G1,hr,hH,_,hna⟩:=y0w (ds:=ds) hx ht hh
  obtain⟨rfl,rfl⟩:=hna rfl
  cases hlo:look σ0.ob id with
  | none=>rw[hlo] at h; simp at h
  | some o1=>
    rw[hlo] at h
    simp only at h
    cases hga:getA o1.t o1.e o1.xs st with
    | none=>rw[hga] at h; simp at h
    | some o2=>
      rw[hga] at h
      simp only at h
      split at h
      case isFalse=>
       split at h
       case isFalse=>cases h
       rename_i hcnd
       obtain⟨he,hln⟩:=hcnd
       simp only[Option.some.injEq,Prod.mk.injEq] at h
       obtain⟨rfl,rfl,rfl⟩:=h
       exact x1a hlo hga he hln hr hh
      rename_i hcnd
      obtain⟨he,hln,haff⟩:=hcnd
      simp only[Option.some.injEq,Prod.mk.injEq] at h
      obtain⟨rfl,rfl,rfl⟩:=h
      have hlen:((o2.xs.drop lo).take n).length=n:=by rw[List.length_take,List.length_drop]; omega
      have h0:Hold w N lc σ0 tmps F (add G fz):=by rw[z0g]; exact hh
      obtain⟨_,⟨rfl,rfl,a0,hv⟩ | ⟨b,cap,ad,hres,hv,hle,hmx,had⟩⟩:=hr
      ·have:(o2.xs.drop 0).take 0=[]:=by simp
       rw[this]
       exact⟨a0,0,[],fz,hv,by simp[z09],h0,fun _=>rfl,fun h=>absurd rfl h⟩
      ·by_cases hn0:n=0
       ·subst hn0
        have:(o2.xs.drop lo).take 0=[]:=by simp
        rw[this]
        exact⟨some ad,cap - lo,[],fz,hv,by simp[z09],h0,fun _=>rfl,fun h=>absurd rfl h⟩
       ·have hlt:lo<cap:=by omega
        have:=had (.inr hlt)
        subst this
        obtain⟨Ft,Fo,hle1,htm,hob⟩:=hh
        obtain⟨F1,F2,_,hO,_⟩:=y0d σ0.ob Fo id o1 hlo hob
        obtain⟨l',F3,F4,hl',hO',_,_⟩:=v0u st hO hga
        rcases hO' with⟨_,hnil⟩ | ⟨b',cap',cur,F',hl2,hb,hl,hc,hs',hrows,_⟩
        ·rw[hnil] at hln; simp at hln; omega
        ·have hbb:b=b':=by
          rcases hl' with h | h
          ·rw[hl2] at h; cases h
          ·rw[hres,hl2] at h; injection h with h; injection h
         subst hbb
         obtain⟨F5,_,h5⟩:=u09 lo hrows
         obtain⟨F6,_,h6⟩:=w0i n h5
         have:=l0k haff h6
         subst this
         rw[he] at h6
         refine⟨_,cap - lo,_,fz,by rw[hlen]; exact hv,h6,h0,(by simp),fun _=>⟨_,rfl,fun j u hj=>?_⟩⟩
         rw[x0i,y07 hb]
         rw[List.getElem?_take] at hj
         split at hj
         ·rw[List.getElem?_drop] at hj; exact w0c hj
         ·cases hj
 ·cases h
theorem l0u (t ty e:TypeId) (i:TypeInfo) (size:Nat) (ht:P.underlying t=some (.slice e)) (hi:P.info? e=some i)
 (v:Value) (n:Nat) (xs:List Value) (hown:w.ownsRow 0 e size v n xs) (c:Nat):(Builtin.append_ #[t,t] ty #[v,.slice none 0 c]).run P w = .ok v w:=by
 rcases hown.2 with⟨rfl,rfl⟩ | ⟨g,cap,cur,rfl,_,_,hnc,_⟩
 ·simp[Builtin.append_,run_underlying ht,sizeOf,typeInfo,hi,Builtin.lenOf,Builtin.firstCells]
 ·simp[Builtin.append_,run_underlying ht,sizeOf,typeInfo,hi,Builtin.lenOf,Builtin.firstCells,hnc,storeCells]
theorem r0h (w:World) (t ty e:TypeId) (i:TypeInfo) (ht:P.underlying t=some (.slice e)) (hi:P.info? e=some i) (a:Option Addr) (A:Addr) (m c:Nat) (hm:0<m)
 (hf:Builtin.nextslicecap m 0*i.bytes≤281474976710656) :
 (Builtin.append_ #[t,t] ty #[.slice a 0 0,.slice (some A) m c]).run P w=(Builtin.append_ #[t,t] ty #[.slice none 0 0,.slice (some A) m c]).run P w:=by
 have h1: ¬m=0:=by omega
 have h2: ¬281474976710656<Builtin.nextslicecap m 0*i.bytes:=by omega
 have hl: ∀(x:Addr) (w:World),(loadCells x 0).run P w = .ok #[] w:=fun x w=>by simpa using run_loadCells_list (P:=P) w x [] (by simp)
 cases a with
 | none=>rfl
 | some b=>simp[Builtin.append_,run_underlying ht,sizeOf,typeInfo,hi,Builtin.lenOf,Builtin.firstCells,h1,h2,hl]
theorem t1j {w':World} {ob:List (Nat×Obj)} {Fo:Fp} {id:Nat} {st:Path} {x:Nat×Nat} (hk: ∀b,1≤Fo b∨N b→w'.heap[b]?=w.heap[b]?) (ho:y03 w N lc ob Fo) (hp:e0p ob id st=false)
 (hx:resF w (lc id) st=some x):resF w' (lc id) st=some x:=by
 match st,hp,hx with
 | [],_,hx=>exact hx
 | [(e,i,f)],hp,hx=>
   simp only[e0p] at hp
   cases hl:look ob id with
   | none=>rw[hl] at hp; simp at hp
   | some o=>
     obtain⟨F1,F2,hle,hO,_⟩:=y0d ob Fo id o hl ho
     rcases hO with⟨hn,_⟩ | ⟨b,cap,cur,F',hl2,hb,_,_,_,_,rfl⟩
     ·rw[hn] at hx; simp[resF] at hx
     ·have hkb:w'.heap[b]?=w.heap[b]?:=hk b (.inl (by have:=hle b; simp only[add,Am.one,if_true] at this; omega))
      rw[hl2] at hx ⊢
      simp only[resF] at hx ⊢
      rw[World.cell?_of_block (a:=⟨b,i*e+f,none⟩) hkb]
      exact hx
 | _ :: _ :: _,hp,_=>simp[e0p] at hp
theorem m03 {o:Oper} {t el e:Nat} {s0 x0:Operand} {i:TypeInfo} {zv:Value} (ho:o.op = .call { callee:= .builtin .append,args:=#[s0,x0],argTypes:=#[t,t] })
 (ht:P.underlying t=some (.slice el)) (hi:P.info? el=some i) (hz:i.zero=some zv) (hs:i.size=e) (hby:i.bytes≤16384) (hzs:zv.cells.size=e) (he:0<e)
 {xs ys:List (List C)} {A:Option Addr} {c:Nat} {vals:List Value} {G1 G2:Fp} (hn:xs.length+ys.length≤4294967296)
 (hr1:repC w N (.ar true el e xs) ((Act.mk tmps ds).eval s0) G1) (hx0:(Act.mk tmps ds).eval x0 = .slice A ys.length c) (hr2:z09 w N e ys vals G2) (hnone:A=none→ys=[])
 (hcells:ys≠[]→∃ad,A=some ad∧∀j u,vals[j]?=some u→w.cell? (ad.add j)=some u) :
 (xs=[]∧ys=[]∧∃a,(Act.mk tmps ds).eval s0 = .slice a 0 0)∨∃us G1' ob,z09 w N e xs us G1'∧(∀b,G1' b≤G1 b)∧(∀b,ob=some b→G1 b=1+G1' b)∧(∀b,ob=some b→((Act.mk tmps ds).eval s0).ownBlock=some b)∧
   ∃v' w',(Builtin.append_ #[t,t] o.type #[(Act.mk tmps ds).eval s0,.slice A ys.length c]).run P w = .ok v' w'∧w'.ownsRow 0 el e v' (xs.length+ys.length) (us ++ vals)∧w.grownBy w' ob∧
   (v'.ownBlock=ob∨v'.ownBlock=some w.heap.size):=by
 have hvl2:=w0g hr2
 have hrunO: ∀(v0:Value) (us:List Value),w.ownsRow 0 el e v0 xs.length us→∃v' w',(Builtin.append_ #[t,t] o.type #[v0,.slice A ys.length c]).run P w = .ok v' w'∧w'.ownsRow 0 el e v' (xs.length+ys.length) (us ++ vals)∧w.grownBy w' v0.ownBlock∧
  (v'.ownBlock=v0.ownBlock∨v'.ownBlock=some w.heap.size):=by
  intro v0 us hown
  cases A with
  | none=>
    have:=hnone rfl
    subst this
    simp only[z09] at hr2
    obtain⟨rfl,rfl⟩:=hr2
    exact⟨_,w,l0u t o.type el i e ht hi _ _ _ hown c,by simpa using hown,⟨rfl,rfl,rfl,Nat.le_refl _,fun _ _ _=>rfl⟩,.inl rfl⟩
  | some ad=>
    have hc: ∀j u,vals[j]?=some u→w.cell? (ad.add j)=some u:=by
     by_cases hy:ys=[]
     ·subst hy
      have:vals=[]:=List.eq_nil_of_length_eq_zero (by simpa using hvl2)
      subst this
      intro j u hj; simp at hj
     ·obtain⟨ad',h1,h2⟩:=hcells hy
      injection h1 with h1
      subst h1
      exact h2
    have hbytes:(xs.length+ys.length)*i.bytes≤140737488355328:=by
     have h1:(xs.length+ys.length)*i.bytes≤4294967296*16384:=Nat.mul_le_mul hn hby
     omega
    obtain⟨v',w',h1,h2,h3,_,h5⟩:=run_append_own_at (P:=P) w 0 t o.type el i zv e i.bytes ht hi hz hs rfl hzs he _ _ _ hown ad ys.length c vals hvl2 hc (w0h hr2) (by simp only[maxLen]; omega) hbytes (Nat.zero_le _)
    exact⟨v',w',h1,h2,h3,h5⟩
 rcases t0o hr1 with⟨hx,a,hv⟩ | ⟨b,cap,cur,F',_,hv,hb,hl,hc,hs',hr,hG⟩
 ·subst hx
  by_cases hy:ys=[]
  ·exact .inl ⟨rfl,hy,a,hv⟩
  ·obtain⟨ad,had,hcl⟩:=hcells hy
   subst had
   have hpos:0<ys.length:=List.length_pos_iff.2 hy
   have hbytes:ys.length*i.bytes≤140737488355328:=by
    have h1:ys.length*i.bytes≤4294967296*16384:=Nat.mul_le_mul (by simpa using hn) hby
    omega
   obtain⟨v',w',h1,h2,h3,h4⟩:=hrunO (.slice none 0 0) [] ⟨by simp,.inl ⟨rfl,rfl⟩⟩
   refine .inr ⟨[],fz,none,by simp[z09],fun _=>Nat.zero_le _,fun b hb=>by simp at hb,fun b hb=>by simp at hb,v',w',?_,h2,h3,h4⟩
   rw[hv,r0h w t o.type el i ht hi a ad ys.length c hpos (growslice_fits (by omega) (by simpa using hbytes))]
   exact h1
 ·obtain⟨v',w',h1,h2,h3,h4⟩:=hrunO _ _ ⟨w0g hr,.inr ⟨b,cap,cur,hv,Nat.zero_le _,hb,hl,hc,hs',rfl⟩⟩
  refine .inr ⟨_,F',some b,hr,fun x=>by rw[hG]; simp only[add]; omega,fun b' hb'=>?_,fun b' hb'=>by rw[hv]; exact hb',v',w',h1,h2,?_,?_⟩
  ·injection hb' with hb'
   subst hb'
   rw[hG]
   simp[add,Am.one]
  ·rw[hv] at h3; exact h3
  ·rw[hv] at h4; exact h4
theorem o0t {o:Oper} {t el e:Nat} {s0 x0:Operand} {i:TypeInfo} {zv:Value} (ho:o.op = .call { callee:= .builtin .append,args:=#[s0,x0],argTypes:=#[t,t] })
 (ht:P.underlying t=some (.slice el)) (hi:P.info? el=some i) (hz:i.zero=some zv) (hs:i.size=e) (hby:i.bytes≤16384) (hzs:zv.cells.size=e) (he:0<e)
 {xs ys:List (List C)} {A:Option Addr} {c:Nat} {vals:List Value} {G1 G2:Fp} (hn:xs.length+ys.length≤4294967296)
 (hr1:repC w N (.ar true el e xs) ((Act.mk tmps ds).eval s0) G1) (hx0:(Act.mk tmps ds).eval x0 = .slice A ys.length c) (hr2:z09 w N e ys vals G2) (hnone:A=none→ys=[])
 (hcells:ys≠[]→∃ad,A=some ad∧∀j u,vals[j]?=some u→w.cell? (ad.add j)=some u) :
 ∃v w',(execOp (Act.mk tmps ds).eval o).run P w = .ok (.value v) w'∧w.grownBy w' ((Act.mk tmps ds).eval s0).ownBlock∧(∀b,v.ownBlock=some b→((Act.mk tmps ds).eval s0).ownBlock=some b∨w.heap.size≤b)∧∀b,b<w.heap.size→G1 b=0→w'.heap[b]?=w.heap[b]?:=by
 rcases m03 ho ht hi hz hs hby hzs he hn hr1 hx0 hr2 hnone hcells with⟨rfl,rfl,a,hv⟩ | ⟨us,G1',ob,_,_,hG,hob,v',w',hrun,_,hgrow,hblk⟩
 ·have hl0: ∀(x:Addr) (w:World),(loadCells x 0).run P w = .ok #[] w:=fun x w=>by simpa using run_loadCells_list (P:=P) w x [] (by simp)
  have hexec:(execOp (Act.mk tmps ds).eval o).run P w = .ok (.value (.slice a 0 0)) w:=by
   simp[execOp,ho,resolve,invoke,builtin,hx0,hv,Builtin.append_,run_underlying ht,sizeOf,typeInfo,hi,Builtin.lenOf,Builtin.firstCells]
   cases A <;> cases a <;> simp[storeCells,hl0]
  exact⟨_,w,hexec,⟨rfl,rfl,rfl,Nat.le_refl _,fun _ _ _=>rfl⟩,fun b hb=> .inl (by rw[hv]; exact hb),fun _ _ _=>rfl⟩
 ·have hexec:(execOp (Act.mk tmps ds).eval o).run P w = .ok (.value v') w':=by
   simp only[execOp,ho,resolve,invoke,builtin,Sem.run_bind,Sem.run_pure,Result.andThen_ok,List.map_toArray,List.map_cons,List.map_nil,hx0,hrun]
  refine⟨v',w',hexec,⟨hgrow.os,hgrow.tape,hgrow.output,hgrow.size,fun k hk hne=>hgrow.block k hk fun he=>hne (hob k he.symm).symm⟩,fun b hb=>?_,fun b hb h0=>hgrow.block b hb fun he=>by have:=hG b he.symm; omega⟩
  rcases hblk with h | h
  ·exact .inl (hob b (h.symm.trans hb))
  ·right; rw[hb] at h; injection h with h; omega
theorem g0d {o:Oper} {t el e:Nat} {s0 x0:Operand} {i:TypeInfo} {zv:Value} (ho:o.op = .call { callee:= .builtin .append,args:=#[s0,x0],argTypes:=#[t,t] })
 (ht:P.underlying t=some (.slice el)) (hi:P.info? el=some i) (hz:i.zero=some zv) (hs:i.size=e) (hby:i.bytes≤16384) (hzs:zv.cells.size=e) (he:0<e) (hd: ∀k,o.dst=some k→k<tmps.size)
 {xs ys:List (List C)} {A:Option Addr} {c:Nat} {vals:List Value} {G1 G2:Fp} (hn:xs.length+ys.length≤4294967296)
 (hr1:repC w N (.ar true el e xs) ((Act.mk tmps ds).eval s0) G1) (hx0:(Act.mk tmps ds).eval x0 = .slice A ys.length c) (hr2:z09 w N e ys vals G2) (hnone:A=none→ys=[])
 (hcells:ys≠[]→∃ad,A=some ad∧∀j u,vals[j]?=some u→w.cell? (ad.add j)=some u) (hB:Base w N F) (hh:Hold w N lc σ tmps F (add G1 G2)) :
 MOk P w N lc tmps ds F o (setT { σ with tm:=w0u (e0p σ.ob) σ.tm } o.dst (.one (.ar true el e (xs ++ ys)))):=by
 have hmain:=m03 ho ht hi hz hs hby hzs he hn hr1 hx0 hr2 hnone hcells
 rcases hmain with⟨rfl,rfl,a,hv⟩ | ⟨us,G1',ob,hrx,hGle,hGb,_,hrun⟩
 ·have hl0: ∀(x:Addr) (w:World),(loadCells x 0).run P w = .ok #[] w:=fun x w=>by simpa using run_loadCells_list (P:=P) w x [] (by simp)
  have hexec:(execOp (Act.mk tmps ds).eval o).run P w = .ok (.value (.slice a 0 0)) w:=by
   simp[execOp,ho,resolve,invoke,builtin,hx0,hv,Builtin.append_,run_underlying ht,sizeOf,typeInfo,hi,Builtin.lenOf,Builtin.firstCells]
   cases A <;> cases a <;> simp[storeCells,hl0]
  obtain⟨Ft,Fo,hle,htm,hob⟩:=hh
  obtain⟨Ft',hFt',htm'⟩:=w0r (w':=w) (N':=N) (lc':=lc) (p:=e0p σ.ob) tmps σ.tm Ft (fun _ _=>rfl) (fun _ h=>h)
   (fun ii s hp x hx=>hx) htm
  exact⟨_,_,w,N,lc,F,hexec,.inl rfl,hB,y0j (G1:=fz) ⟨Ft',Fo,fun b=>by have:=hle b; have:=hFt' b; simp only[add,fz] at *; omega,htm',hob⟩ (by simp[repA,repT,repC]) hd,Fr.refl w F N lc⟩
 obtain⟨v',w',hrun,hown',hgrow,hblk⟩:=hrun
 have hexec:(execOp (Act.mk tmps ds).eval o).run P w = .ok (.value v') w':=by
  simp only[execOp,ho,resolve,invoke,builtin,Sem.run_bind,Sem.run_pure,Result.andThen_ok,List.map_toArray,List.map_cons,List.map_nil,hx0,hrun]
 obtain⟨Ft,Fo,hle,htm,hob⟩:=hh
 have hF1: ∀b,F b≤1:=hB.one
 have keepH: ∀(H:Fp),(∀b,H b≤F b)→(∀b,ob=some b→H b=0)→∀b,1≤H b∨N b→w'.heap[b]?=w.heap[b]?:=by
  intro H hHF hH b hb
  have hlt:b<w.heap.size:=hb.elim (fun h=>hB.lt b (Nat.le_trans h (hHF b))) fun h=>(hB.nb b h).2
  refine hgrow.block b hlt fun he=>?_
  have h1:=hH b he.symm
  have h2:=hGb b he.symm
  rcases hb with hb | hb
  ·omega
  ·have:=(hB.nb b hb).1; have:=hle b; simp only[add] at this; omega
 have zb: ∀b,ob=some b→G1' b=0∧G2 b=0∧Ft b=0∧Fo b=0∧F b=1:=fun b hb=>by
  have h1:=hGb b hb; have h2:=hle b; have h3:=hF1 b; simp only[add] at h2; omega
 have hrx':=x0a (w':=w') (N':=N) e xs us G1' (keepH G1' (fun b=>by have:=hle b; have:=hGle b; simp only[add] at *; omega) fun b hb=>(zb b hb).1) (fun _ h=>h) hrx
 have hry':=x0a (w':=w') (N':=N) e ys vals G2 (keepH G2 (fun b=>by have:=hle b; simp only[add] at *; omega) fun b hb=>(zb b hb).2.1) (fun _ h=>h) hr2
 have hrows:=w08 hrx' hry'
 obtain⟨Ft',hFt',htm'⟩:=w0r (w':=w') (N':=N) (lc':=lc) (p:=e0p σ.ob) tmps σ.tm Ft (keepH Ft (fun b=>by have:=hle b; simp only[add] at *; omega) fun b hb=>(zb b hb).2.2.1) (fun _ h=>h)
  (fun ii s hp x hx=>t1j (keepH Fo (fun b=>by have:=hle b; simp only[add] at *; omega) fun b hb=>(zb b hb).2.2.2.1) hob hp hx) htm
 have hob':=y0q (w':=w') (N':=N) (lc':=lc) σ.ob Fo (keepH Fo (fun b=>by have:=hle b; simp only[add] at *; omega) fun b hb=>(zb b hb).2.2.2.1) (fun _ h=>h) (fun _ _ _=>rfl) hob
 have hlen:(xs ++ ys).length=xs.length+ys.length:=by simp
 rcases hown'.2 with⟨rfl,hn0⟩ | ⟨g,cap,cur,rfl,_,hg,hncap,hmax,hsz,htake⟩
 ·-- nil
  have hx:xs=[]:=List.eq_nil_of_length_eq_zero (by omega)
  have hy:ys=[]:=List.eq_nil_of_length_eq_zero (by omega)
  subst hx; subst hy
  refine⟨_,_,w',N,lc,F,hexec,.inl rfl,⟨hF1,fun b hb=>Nat.lt_of_lt_of_le (hB.lt b hb) hgrow.size,fun b hb=>⟨(hB.nb b hb).1,Nat.lt_of_lt_of_le (hB.nb b hb).2 hgrow.size⟩⟩,
   y0j (G1:=fz) ⟨Ft',Fo,fun b=>by have:=hle b; have:=hFt' b; simp only[add,fz] at *; omega,htm',hob'⟩ (by simp[repA,repT,repC]) hd,⟨hgrow.os,hgrow.tape,hgrow.output,hgrow.size,fun b hb h0=>hgrow.block b hb (fun he=>by have:=(zb b he.symm).2.2.2.2; omega),fun _ h=> .inl h,fun _ h=>h,fun _ h=> .inl h,fun _ _=>rfl⟩⟩
 ·have hv:repA w' N lc (.one (.ar true el e (xs ++ ys))) (.slice (some ⟨g,0,none⟩) (xs.length+ys.length) cap) (add (Am.one g) (add G1' G2)):=by
   simp only[repA,repT,repC]
   exact .inr ⟨g,cap,cur,add G1' G2,by rw[hlen],hg,by omega,hmax,hsz,by rw[hlen,htake]; exact hrows,rfl⟩
  have hglt:g<w'.heap.size:=(Array.getElem?_eq_some_iff.1 hg).1
  rcases hblk with hbk | hbk
  ·-- in place
   have hbk':ob=some g:=by rw[← hbk]; rfl
   have hz:=zb g hbk'
   refine⟨_,_,w',N,lc,F,hexec,.inl rfl,⟨hF1,fun b hb=>Nat.lt_of_lt_of_le (hB.lt b hb) hgrow.size,fun b hb=>⟨(hB.nb b hb).1,Nat.lt_of_lt_of_le (hB.nb b hb).2 hgrow.size⟩⟩,
    y0j (G1:=add (Am.one g) (add G1' G2)) ⟨Ft',Fo,fun b=>?_,htm',hob'⟩ hv hd,⟨hgrow.os,hgrow.tape,hgrow.output,hgrow.size,fun b hb h0=>hgrow.block b hb (fun he=>by have:=(zb b he.symm).2.2.2.2; omega),fun _ h=> .inl h,fun _ h=>h,fun _ h=> .inl h,fun _ _=>rfl⟩⟩
   have h1:=hle b; have h2:=hFt' b; have h3:=hGle b
   by_cases hbg:b=g
   ·subst hbg
    simp only[add,fz,Am.one,if_true] at *
    omega
   ·simp only[add,fz,Am.one,if_neg hbg] at *
    omega
  ·have hgn:g=w.heap.size:=by simpa [Value.ownBlock] using hbk
   subst hgn
   refine⟨_,_,w',N,lc,own F w.heap.size,hexec,.inl rfl,⟨fun b=>?_,fun b hb=>?_,fun b hb=>?_⟩,
    y0j (G1:=add (Am.one w.heap.size) (add G1' G2)) ⟨Ft',Fo,fun b=>?_,htm',hob'⟩ hv hd,⟨hgrow.os,hgrow.tape,hgrow.output,hgrow.size,fun b hb h0=>hgrow.block b hb (fun he=>by have:=(zb b he.symm).2.2.2.2; omega),fun b hb=>?_,fun _ h=>h,fun _ h=> .inl h,fun _ _=>rfl⟩⟩
   ·unfold own; split
    ·exact Nat.le_refl _
    ·exact hF1 b
   ·unfold own at hb
    split at hb
    ·rename_i hb'; rw[hb']; exact hglt
    ·exact Nat.lt_of_lt_of_le (hB.lt b hb) hgrow.size
   ·have:=hB.nb b hb
    unfold own
    rw[if_neg (by omega)]
    exact⟨this.1,Nat.lt_of_lt_of_le this.2 hgrow.size⟩
   ·have h1:=hle b; have h2:=hFt' b; have h3:=hGle b; have h4:=x1i hB
    by_cases hbg:b=w.heap.size
    ·subst hbg
     simp only[add,fz,Am.one,own,if_true] at *
     omega
    ·simp only[add,fz,Am.one,own,if_neg hbg] at *
     omega
   ·unfold own at hb
    split at hb
    ·right; omega
    ·exact .inl hb
theorem g1y {o:Oper} {t el e by_:Nat} {fzm:Bool} {s x:X} {s0 x0:Operand} {i:TypeInfo} {zv:Value} (ho:o.op = .call { callee:= .builtin .append,args:=#[s0,x0],argTypes:=#[t,t] })
 (hs0:XOf s s0) (hx0:XOf x x0) (ht:P.underlying t=some (.slice el)) (hi:P.info? el=some i) (hz:i.zero=some zv) (hs:i.size=e) (hby:i.bytes=by_) (hby2:by_≤16384) (hzs:zv.cells.size=e) (he:0<e)
 (hd: ∀k,o.dst=some k→k<tmps.size) (h:runM o.dst (.app el e by_ fzm s x) σ=some σ1) (hB:Base w N F) (hh:Hold w N lc σ tmps F fz):MOk P w N lc tmps ds F o σ1:=by
 simp only[runM] at h
 split at h
 case h_2=>cases h
 rename_i t' e' xs σ2 hts
 split at h
 case h_2=>cases h
 rename_i e2 ys σ3 hte
 split at h
 case isFalse=>cases h
 rename_i hcnd
 obtain⟨rfl,rfl,rfl,hn⟩:=hcnd
 simp only[Option.some.injEq] at h
 subst h
 obtain⟨G1,hr1,hH1⟩:=h0y (ds:=ds) hs0 hts hh
 obtain⟨A,c,vals,G2,hv,hr2,hH2,hnone,hcells⟩:=h0x (ds:=ds) hx0 hte hB hH1
 cases fzm with
 | false=>
   simp only[Bool.false_eq_true,if_false]
   exact g0d ho ht hi hz hs (by omega) hzs he hd hn hr1 hv hr2 hnone hcells hB hH2
 | true=>
   simp only[if_true]
   obtain⟨h3,h4,h5⟩:=p0e hB hH2
   have hlen:(z0i ys).length=ys.length:=by simp[t0d]
   have hr1':repC w (frzN N G2) (.ar true t' e2 xs) ((Act.mk tmps ds).eval s0) G1:=w05 _ _ _ (fun _ _=>rfl) (fun _ h=> .inl h) hr1
   have hr2':z09 w (frzN N G2) e2 (z0i ys) vals fz:=t0b e2 ys vals G2 (fun _ h=> .inr h) (fun _ h=> .inl h) hr2
   obtain⟨r,v,w',N2,lc',F2,k1,k2,k3,k4,k5⟩:=g0d (P:=P) (lc:=lc) (ds:=ds) (xs:=xs) (ys:=z0i ys) ho ht hi hz hs (by omega) hzs he hd (by rw[hlen]; exact hn) hr1' (by rw[hlen]; exact hv) hr2' (fun h=>by simp[hnone h,z0i])
    (fun h=>hcells (by rintro rfl; exact h rfl)) h3 (by rw[z0g]; exact h4)
   exact⟨r,v,w',N2,lc',F2,k1,k2,k3,k4,h5.trans k5⟩
theorem x1u {o:Oper} {t el e by_:Nat} {fzm:Bool} {s x:X} {s0 x0:Operand} {i:TypeInfo} {zv:Value} {d:Option Nat} (ho:o.op = .call { callee:= .builtin .append,args:=#[s0,x0],argTypes:=#[t,t] })
 (hs0:XOf s s0) (hx0:XOf x x0) (ht:P.underlying t=some (.slice el)) (hi:P.info? el=some i) (hz:i.zero=some zv) (hs:i.size=e) (hby:i.bytes=by_) (hby2:by_≤16384) (hzs:zv.cells.size=e) (he:0<e)
 (h:runM d (.app el e by_ fzm s x) σ=some σ1) (hB:Base w N F) (hh:Hold w N lc σ tmps F fz) :
 ∃v w',(execOp (Act.mk tmps ds).eval o).run P w = .ok (.value v) w'∧w.grownBy w' ((Act.mk tmps ds).eval s0).ownBlock∧(∀b,v.ownBlock=some b→((Act.mk tmps ds).eval s0).ownBlock=some b∨w.heap.size≤b):=by
 simp only[runM] at h
 split at h
 case h_2=>cases h
 rename_i t' e' xs σ2 hts
 split at h
 case h_2=>cases h
 rename_i e2 ys σ3 hte
 split at h
 case isFalse=>cases h
 rename_i hcnd
 obtain⟨rfl,rfl,rfl,hn⟩:=hcnd
 obtain⟨G1,hr1,hH1⟩:=h0y (ds:=ds) hs0 hts hh
 obtain⟨A,c,vals,G2,hv,hr2,hH2,hnone,hcells⟩:=h0x (ds:=ds) hx0 hte hB hH1
 obtain⟨v,w',h1,h2,h3,_⟩:=o0t ho ht hi hz hs (by omega) hzs he hn hr1 hv hr2 hnone hcells
 exact⟨v,w',h1,h2,h3⟩
theorem r14 {o:Oper} {t el e by_:Nat} {fzm:Bool} {s x:X} {s0 x0:Operand} {i:TypeInfo} {zv:Value} {d:Option Nat} (ho:o.op = .call { callee:= .builtin .append,args:=#[s0,x0],argTypes:=#[t,t] })
 (hs0:XOf s s0) (hx0:XOf x x0) (ht:P.underlying t=some (.slice el)) (hi:P.info? el=some i) (hz:i.zero=some zv) (hs:i.size=e) (hby:i.bytes=by_) (hby2:by_≤16384) (hzs:zv.cells.size=e) (he:0<e)
 (h:runM d (.app el e by_ fzm s x) σ=some σ1) (hB:Base w N F) (hh:Hold w N lc σ tmps F fz) {a0:A} {σ4:St} {o1:Obj} {id b cap:Nat} (hts0:e0s σ s=some (a0,σ4)) (hob:look σ4.ob id=some o1) (hlc:lc id=some (b,cap)) :
 ∃v w',(execOp (Act.mk tmps ds).eval o).run P w = .ok (.value v) w'∧w'.heap[b]?=w.heap[b]?:=by
 simp only[runM] at h
 split at h
 case h_2=>cases h
 rename_i t' e' xs σ2 hts
 rw[hts] at hts0
 simp only[Option.some.injEq,Prod.mk.injEq] at hts0
 obtain⟨rfl,rfl⟩:=hts0
 split at h
 case h_2=>cases h
 rename_i e2 ys σ3 hte
 split at h
 case isFalse=>cases h
 rename_i hcnd
 obtain⟨rfl,rfl,rfl,hn⟩:=hcnd
 obtain⟨G1,hr1,hH1⟩:=h0y (ds:=ds) hs0 hts hh
 have hb:b<w.heap.size∧G1 b=0:=by
  obtain⟨Ft,Fo,hle,_,hobs⟩:=hH1
  obtain⟨F1,F2,hle2,hO,_⟩:=y0d σ2.ob Fo id o1 hob hobs
  rcases hO with⟨hn',_⟩ | ⟨b',cap',cur,F',hl,hbk,_,_,_,_,hF⟩
  ·rw[hlc] at hn'; cases hn'
  ·rw[hlc] at hl
   injection hl with hl
   injection hl with hl _
   subst hl
   have e1:1≤F1 b:=by rw[hF]; simp only[add,Am.one,if_true]; omega
   have e2:=hle b
   have e3:=hle2 b
   have e4:=hB.one b
   exact⟨(Array.getElem?_eq_some_iff.1 hbk).1,by omega⟩
 obtain⟨A,c,vals,G2,hv,hr2,hH2,hnone,hcells⟩:=h0x (ds:=ds) hx0 hte hB hH1
 obtain⟨v,w',h1,_,_,h4⟩:=o0t ho ht hi hz hs (by omega) hzs he hn hr1 hv hr2 hnone hcells
 exact⟨v,w',h1,h4 b hb.1 hb.2⟩
end
end Go.Am
namespace Go.Am
def x07 (w:World) (N:Nat→Prop) (lc:Loc):List A→List Value→Fp→Prop
 | [],gs,F=>gs=[]∧F=fz
 | a :: as,gs,F=>∃g gs' F1 F2,gs=g :: gs'∧F=add F1 F2∧repA w N lc a g F1∧x07 w N lc as gs' F2
def inR:Nat→List (Nat×Nat×Nat)→Bool:=fun id _=>decide (id<1000)
def CallsA (P:Program) (f:FuncId) (args:List A) (H:List (Nat×Obj)) (R:A→List (Nat×Obj)→Prop):Prop:=
 ∀(w:World) (N:Nat→Prop) (lc:Loc) (gs:List Value) (F Fa Fo:Fp),Base w N F→(∀b,Fa b+Fo b≤F b)→(∀a∈args,a.ref inR=false)→x07 w N lc args gs Fa→y03 w N lc H Fo→
  Calls P f gs.toArray w fun e w'=>∃(g:Value) (r:A) (H':List (Nat×Obj)) (N':Nat→Prop) (lc':Loc) (F' Fr' Fo':Fp),e = .returned g∧R r H'∧Base w' N' F'∧repA w' N' lc' r g Fr'∧y03 w' N' lc' H' Fo'∧
   (∀b,Fr' b+Fo' b≤F' b)∧r.ref (fun _ _=>true)=false∧Fr w F N lc w' F' N' lc'
theorem CallsA.mono {P:Program} {f:FuncId} {args:List A} {H:List (Nat×Obj)} {R R':A→List (Nat×Obj)→Prop} (h:CallsA P f args H R) (hr: ∀r H',R r H'→R' r H'):CallsA P f args H R':=
 fun w N lc gs F Fa Fo h1 h2 h3 h4 h5=>(h w N lc gs F Fa Fo h1 h2 h3 h4 h5).mono fun _ _ ⟨g,r,H',N',lc',F',Fr',Fo',k1,k2,k3⟩=>⟨g,r,H',N',lc',F',Fr',Fo',k1,hr _ _ k2,k3⟩
mutual
def noSh:C→Bool
 | .ar true _ _ xs=>y0c xs
 | .ar false _ _ xs=>xs.isEmpty
 | .ps _=>false
 | .fn _ cap=>cap.isEmpty
 | .op _ _ cs=>w0t cs
 | _=>true
def w0t:List C→Bool
 | []=>true
 | c :: cs=>noSh c && w0t cs
def y0c:List (List C)→Bool
 | []=>true
 | r :: rs=>w0t r && y0c rs
end
def m0z:List (Bool×List C)→Bool
 | []=>true
 | (_,cs) :: r=>w0t cs && m0z r
def u0s:A→Bool
 | .one c=>noSh c
 | .agg cs=>w0t cs
 | .tup xs=>m0z xs
section
variable {w:World} {N N':Nat→Prop} {lc:Loc}
mutual
theorem l0f: ∀(c:C) (g:Value) (F:Fp),noSh c=true→repC w N c g F→repC w N' c g F
 | .int ..,_,_,_,h=>h
 | .bool ..,_,_,_,h=>h
 | .str ..,_,_,_,h=>h
 | .np,_,_,_,h=>h
 | .vw ..,_,_,_,h=>h
 | .pt ..,_,_,_,h=>h
 | .ps ..,_,_,_,h=>h
 | .dead,_,_,_,h=>h
 | .op t e cs,g,F,hn,h=>by
   simp only[noSh] at hn
   simp only[repC] at h ⊢
   obtain⟨b,cur,F',hg,hb,hl,hs,hr,rfl⟩:=h
   exact⟨b,cur,F',hg,hb,hl,hs,q0w cs _ F' hn hr,rfl⟩
 | .fn f cap,g,F,hn,h=>by
   simp only[noSh] at hn
   have:cap=[]:=by simpa using hn
   subst this
   simp only[repC,z0d] at h ⊢
   exact h
 | .ar true t e xs,g,F,hn,h=>by
   simp only[noSh] at hn
   simp only[repC] at h ⊢
   rcases h with h | ⟨b,cap,cur,F',hg,hb,hl,hc,hs,hr,hF⟩
   ·exact .inl h
   ·exact .inr ⟨b,cap,cur,F',hg,hb,hl,hc,hs,r0e e xs _ F' hn hr,hF⟩
 | .ar false t e xs,g,F,hn,h=>by
   simp only[noSh] at hn
   have:xs=[]:=by simpa using hn
   subst this
   simp only[repC] at h ⊢
   obtain⟨h1,a,cap,h2,h3,h4,_⟩:=h
   exact⟨h1,a,cap,h2,h3,h4,fun h=>absurd rfl h⟩
theorem q0w: ∀(cs:List C) (vs:List Value) (F:Fp),w0t cs=true→z0d w N cs vs F→z0d w N' cs vs F
 | [],_,_,_,h=>h
 | c :: cs,vs,F,hn,h=>by
   simp only[w0t,Bool.and_eq_true] at hn
   simp only[z0d] at h ⊢
   obtain⟨v,vs',F1,F2,hv,rfl,h1,h2⟩:=h
   exact⟨v,vs',F1,F2,hv,rfl,l0f c v F1 hn.1 h1,q0w cs vs' F2 hn.2 h2⟩
theorem r0e (e:Nat): ∀(xs:List (List C)) (vs:List Value) (F:Fp),y0c xs=true→z09 w N e xs vs F→z09 w N' e xs vs F
 | [],_,_,_,h=>h
 | r :: rs,vs,F,hn,h=>by
   simp only[y0c,Bool.and_eq_true] at hn
   simp only[z09] at h ⊢
   obtain⟨v1,v2,F1,F2,hv,hl,rfl,h1,h2⟩:=h
   exact⟨v1,v2,F1,F2,hv,hl,rfl,q0w r v1 F1 hn.1 h1,r0e e rs v2 F2 hn.2 h2⟩
end
theorem l0l {c:C} {g:Value} {F:Fp} (hn:noSh c=true) (h:repT w N lc c g F):repT w N' lc c g F:=by
 cases c with
 | vw=>exact h
 | pt=>exact h
 | ps=>simp[noSh] at hn
 | dead=>exact h
 | int k n=>exact h
 | bool b=>exact h
 | str s=>exact h
 | np=>exact h
 | fn f cap=>
   have:cap=[]:=by simpa [noSh] using hn
   subst this
   exact h
 | op=>exact l0f _ _ _ hn h
 | ar o t e xs=>exact l0f _ _ _ hn h
theorem r0c: ∀{cs:List C} {vs:List Value} {F:Fp},w0t cs=true→z0m w N lc cs vs F→z0m w N' lc cs vs F
 | [],_,_,_,h=>h
 | c :: cs,_,_,hn,⟨v,vs',F1,F2,hv,hF,h1,h2⟩=>by
   simp only[w0t,Bool.and_eq_true] at hn
   exact⟨v,vs',F1,F2,hv,hF,l0l hn.1 h1,r0c hn.2 h2⟩
theorem l0p: ∀{xs:List (Bool×List C)} {gs:List Value} {F:Fp},m0z xs=true→u0m w N lc xs gs F→u0m w N' lc xs gs F
 | [],_,_,_,h=>h
 | (ag,cs) :: r,_,_,hn,⟨g,gs',F1,F2,hv,hF,h1,h2⟩=>by
   simp only[m0z,Bool.and_eq_true] at hn
   refine⟨g,gs',F1,F2,hv,hF,?_,l0p hn.2 h2⟩
   cases ag with
   | true=>obtain⟨vs,hg,h1⟩:=h1; exact⟨vs,hg,r0c hn.1 h1⟩
   | false=>
     obtain⟨c,rfl,h1⟩:=h1
     simp only[w0t,Bool.and_true] at hn
     exact⟨c,rfl,l0l hn.1 h1⟩
theorem p0v {a:A} {g:Value} {F:Fp} (hn:u0s a=true) (h:repA w N lc a g F):repA w N' lc a g F:=by
 cases a with
 | one c=>exact l0l hn h
 | agg cs=>obtain⟨vs,hg,h⟩:=h; exact⟨vs,hg,r0c hn h⟩
 | tup xs=>obtain⟨gs,hg,h⟩:=h; exact⟨gs,hg,l0p hn h⟩
end
def v0q (σ:St):C→Option (Bool×C)
 | .vw t e id st lo n=>
   match look σ.ob id with
   | some o=>match getA o.t o.e o.xs st with
     | some o'=>if o'.e=e∧lo+n≤o'.xs.length then some (true,.ar false 0 e (z0i ((o'.xs.drop lo).take n))) else none
     | none=>none
   | none=>none
 | .pt e id st i f=>
   match look σ.ob id with
   | some o=>match getA o.t o.e o.xs st with
     | some o'=>match o'.xs[i]? with
       | some row=>if o'.e=e∧f≤row.length∧x0f (fun _ _=>true) (y04 (row.drop f))=false then some (true,.ps (y04 (row.drop f))) else none
       | none=>none
     | none=>none
   | none=>none
 | .ps cs=>if x0f (fun _ _=>true) cs then none else some (false,.ps cs)
 | .fn f cap=>if x0f (fun _ _=>true) cap then none else some (false,.fn f cap)
 | .op _ _ cs=>if x0f (fun _ _=>true) (y04 cs)=false then some (false,.ps (y04 cs)) else none
 | c=>some (false,shr c)
def u0k (σ:St):List C→Option (Bool×List C)
 | []=>some (false,[])
 | c :: cs=>match v0q σ c,u0k σ cs with
   | some (b,c'),some (b',cs')=>some (b || b',c' :: cs')
   | _,_=>none
def q06 (σ:St):A→Option (Bool×A)
 | .one c=>match v0q σ c with
   | some (b,c')=>some (b,.one c')
   | none=>none
 | .agg cs=>match u0k σ cs with
   | some (b,cs')=>some (b,.agg cs')
   | none=>none
 | .tup _=>none
def u0r (σ:St):List X→Option (Bool×List A×St)
 | []=>some (false,[],σ)
 | x :: xs=>match v06 σ x with
   | some (a,σ1)=>match q06 σ1 a with
     | some (b,a')=>match u0r σ1 xs with
       | some (b',as,σ2)=>some (b || b',a' :: as,σ2)
       | none=>none
     | none=>none
   | none=>none
section
variable {P:Program} {w:World} {N:Nat→Prop} {lc:Loc} {tmps:Array Value} {ds:List Deferred} {F G:Fp} {σ σ1:St}
def v0r (N:Nat→Prop) (F:Fp):Nat→Prop:=fun b=>N b∨1≤F b
theorem a0z {c:C} {g:Value} {F0:Fp} {N':Nat→Prop} (hF: ∀b,1≤F0 b→N' b) (hN: ∀b,N b→N' b) (hc: ∀t e id st lo n,c≠.vw t e id st lo n) (hp: ∀e id st i f,c≠.pt e id st i f) (h:repT w N lc c g F0):repT w N' lc (shr c) g fz:=by
 cases c with
 | vw t e id st lo n=>exact (hc t e id st lo n rfl).elim
 | pt e id st i f=>exact (hp e id st i f rfl).elim
 | ps cs=>
   obtain⟨_,b,off,cur,ty,fr,hg,hb,hh,ho,hrow⟩:=h
   exact⟨rfl,b,off,cur,ty,fr,hg,hN b hb,hh,ho,x09 (p:=fun _ _=>false) cs _ fz (fun _ _=>rfl) hN (fun _ _ _ _ h=>h) (w02 cs) hrow⟩
 | dead=>rfl
 | int k n=>exact u07 (u02 _ _ _ hF hN h)
 | bool b=>exact u07 (u02 _ _ _ hF hN h)
 | str s=>exact u07 (u02 _ _ _ hF hN h)
 | np=>exact u07 (u02 _ _ _ hF hN h)
 | fn f cap=>
   obtain⟨_,vs,hg,hrow⟩:=h
   exact⟨rfl,vs,hg,x09 (p:=fun _ _=>false) cap _ fz (fun _ _=>rfl) hN (fun _ _ _ _ h=>h) (w02 cap) hrow⟩
 | ar o t e xs=>exact u07 (u02 _ _ _ hF hN h)
 | op t e cs=>exact u07 (u02 _ _ _ hF hN h)
mutual
theorem t14 {p:Nat→Path→Bool}: ∀c:C,c.ref (fun _ _=>true)=false→c.ref p=false
 | .vw ..,h=>by cases h
 | .pt ..,h=>by cases h
 | .ps cs,h=>w0x cs h
 | .int ..,_=>rfl
 | .bool ..,_=>rfl
 | .str ..,_=>rfl
 | .np,_=>rfl
 | .fn _ cap,h=>w0x cap h
 | .dead,_=>rfl
 | .op ..,_=>rfl
 | .ar ..,_=>rfl
theorem w0x {p:Nat→Path→Bool}: ∀cs:List C,x0f (fun _ _=>true) cs=false→x0f p cs=false
 | [],_=>rfl
 | c :: cs,h=>by
   simp only[x0f,Bool.or_eq_false_iff] at h ⊢
   exact⟨t14 c h.1,w0x cs h.2⟩
end
theorem z0v {p:Nat→Path→Bool} {c c':C} {b:Bool} (h:v0q σ c=some (b,c')):c'.ref p=false:=by
 cases c with
 | vw t e id st lo n=>
   simp only[v0q] at h
   split at h
   ·split at h
    ·split at h
     ·simp only[Option.some.injEq,Prod.mk.injEq] at h
      obtain⟨_,rfl⟩:=h
      rfl
     ·cases h
    ·cases h
   ·cases h
 | pt e id st i f=>
   simp only[v0q] at h
   split at h
   case h_2=>cases h
   split at h
   case h_2=>cases h
   split at h
   case h_2=>cases h
   split at h
   case isFalse=>cases h
   rename_i hc
   simp only[Option.some.injEq,Prod.mk.injEq] at h
   obtain⟨_,rfl⟩:=h
   simp only[C.ref]
   exact w0x _ hc.2.2
 | ps cs=>
   simp only[v0q] at h
   split at h
   ·cases h
   ·rename_i hr
    simp only[Option.some.injEq,Prod.mk.injEq] at h
    obtain⟨_,rfl⟩:=h
    simp only[C.ref]
    exact w0x cs (by simpa using hr)
 | fn f cap=>
   simp only[v0q] at h
   split at h
   ·cases h
   ·rename_i hr
    simp only[Option.some.injEq,Prod.mk.injEq] at h
    obtain⟨_,rfl⟩:=h
    simp only[C.ref]
    exact w0x cap (by simpa using hr)
 | op t e cs=>
   simp only[v0q] at h
   split at h
   ·rename_i hr
    simp only[Option.some.injEq,Prod.mk.injEq] at h
    obtain⟨_,rfl⟩:=h
    simp only[C.ref]
    exact w0x _ hr
   ·cases h
 | _=>
   simp only[v0q,Option.some.injEq,Prod.mk.injEq] at h
   obtain⟨_,rfl⟩:=h
   rfl
theorem j0b {p:Nat→Path→Bool}: ∀{cs cs':List C} {b:Bool},u0k σ cs=some (b,cs')→x0f p cs'=false
 | [],cs',b,h=>by
   simp only[u0k,Option.some.injEq,Prod.mk.injEq] at h
   obtain⟨_,rfl⟩:=h
   rfl
 | c :: cs,cs',b,h=>by
   simp only[u0k] at h
   split at h
   case h_2=>cases h
   rename_i b1 c1 b2 cs1 hc hcs
   simp only[Option.some.injEq,Prod.mk.injEq] at h
   obtain⟨_,rfl⟩:=h
   simp only[x0f,z0v hc,j0b hcs,Bool.or_self]
theorem u19 {p:Nat→Path→Bool} {a a':A} {b:Bool} (h:q06 σ a=some (b,a')):a'.ref p=false:=by
 cases a with
 | one c=>
   simp only[q06] at h
   split at h
   case h_2=>cases h
   rename_i hc
   simp only[Option.some.injEq,Prod.mk.injEq] at h
   obtain⟨_,rfl⟩:=h
   exact z0v hc
 | agg cs=>
   simp only[q06] at h
   split at h
   case h_2=>cases h
   rename_i hc
   simp only[Option.some.injEq,Prod.mk.injEq] at h
   obtain⟨_,rfl⟩:=h
   exact j0b hc
 | tup xs=>simp[q06] at h
theorem s08 {p:Nat→Path→Bool}: ∀{xs:List X} {as:List A} {b:Bool} {σ σ1:St},u0r σ xs=some (b,as,σ1)→∀a∈as,a.ref p=false
 | [],as,b,σ,σ1,h,a,ha=>by
   simp only[u0r,Option.some.injEq,Prod.mk.injEq] at h
   obtain⟨_,rfl,_⟩:=h
   cases ha
 | x :: xs,as,b,σ,σ1,h,a,ha=>by
   simp only[u0r] at h
   split at h
   case h_2=>cases h
   split at h
   case h_2=>cases h
   rename_i hl
   split at h
   case h_2=>cases h
   rename_i hlx
   simp only[Option.some.injEq,Prod.mk.injEq] at h
   obtain⟨_,rfl,_⟩:=h
   rcases List.mem_cons.1 ha with rfl | ha
   ·exact u19 hl
   ·exact s08 hlx a ha
theorem v01 {c c':C} {b:Bool} {g:Value} {F0:Fp} (h:v0q σ c=some (b,c')) (hr:repT w N lc c g F0) (hle0: ∀b,F0 b≤F b) (hh:Hold w N lc σ tmps F G) :
 repT w (v0r N F) lc c' g fz∧(b=false→∀N',(∀b,1≤F0 b→N' b)→(∀b,N b→N' b)→repT w N' lc c' g fz):=by
 have key:(∀t e id st lo n,c≠.vw t e id st lo n)→(∀e id st i f,c≠.pt e id st i f)→some (false,shr c)=some (b,c')→
  repT w (v0r N F) lc c' g fz∧(b=false→∀N',(∀b,1≤F0 b→N' b)→(∀b,N b→N' b)→repT w N' lc c' g fz):=by
  intro h1 h2 h
  simp only[Option.some.injEq,Prod.mk.injEq] at h
  obtain⟨rfl,rfl⟩:=h
  exact⟨a0z (fun b hb=> .inr (Nat.le_trans hb (hle0 b))) (fun b hb=> .inl hb) h1 h2 hr,fun _ N' h3 h4=>a0z h3 h4 h1 h2 hr⟩
 cases c with
 | vw t e id st lo n=>
   simp only[v0q] at h
   cases hlo:look σ.ob id with
   | none=>rw[hlo] at h; simp at h
   | some o1=>
     rw[hlo] at h
     simp only at h
     cases hga:getA o1.t o1.e o1.xs st with
     | none=>rw[hga] at h; simp at h
     | some o2=>
       rw[hga] at h
       simp only at h
       split at h
       case isFalse=>cases h
       rename_i hcnd
       obtain⟨he,hln⟩:=hcnd
       simp only[Option.some.injEq,Prod.mk.injEq] at h
       obtain⟨rfl,rfl⟩:=h
       refine⟨?_,fun h=>by cases h⟩
       have hlen:(z0i ((o2.xs.drop lo).take n)).length=n:=by rw[t0d,List.length_map,List.length_take,List.length_drop]; omega
       obtain⟨_,⟨rfl,rfl,a0,hv⟩ | ⟨b,cap,ad,hres,hv,hle,hmx,had⟩⟩:=hr
       ·have:(o2.xs.drop 0).take 0=[]:=by simp
        rw[this]
        simp only[repT,repC,z0i]
        exact⟨trivial,a0,0,hv,by simp,by simp[maxLen],fun h=>absurd rfl h⟩
       ·simp only[repT,repC,hlen]
        obtain⟨Ft,Fo,hle1,htm,hob⟩:=hh
        obtain⟨F1,F2,hle2,hO,_⟩:=y0d σ.ob Fo id o1 hlo hob
        obtain⟨l',F3,F4,hl',hO',rfl,_⟩:=v0u st hO hga
        rcases hO' with⟨_,hnil⟩ | ⟨b',cap',cur,F',hl2,hb,hl,hc,hs',hrows,rfl⟩
        ·rw[hnil] at hln
         simp only[List.length_nil] at hln
         have h1:n=0:=by omega
         subst h1
         exact⟨trivial,some ad,cap - lo,hv,Nat.zero_le _,by omega,fun h=>absurd (by simp[z0i]) h⟩
        ·have hbb:b=b'∧cap=cap':=by
          rcases hl' with h | h
          ·rw[hl2] at h; cases h
          ·rw[hres,hl2] at h; injection h with h; injection h with h1 h2; exact⟨h1,h2⟩
         obtain⟨rfl,rfl⟩:=hbb
         refine⟨trivial,some ad,cap - lo,hv,by omega,by omega,fun hne=>?_⟩
         have hn0:0<n:=by
          rcases Nat.eq_zero_or_pos n with h | h
          ·subst h; exact absurd (by simp[z0i]) hne
          ·exact h
         have:=had (.inr (by omega))
         subst this
         obtain⟨F5,hF5,h5⟩:=u09 lo hrows
         obtain⟨F6,hF6,h6⟩:=w0i n h5
         have hN: ∀x,1≤(add (Am.one b) F') x→v0r N F x:=fun x hx=>by
          right
          have h1:=hle1 x; have h2:=hle2 x
          simp only[add] at *; omega
         have hbnd:(lo+n)*o2.e≤cur.size:=by rw[hs']; exact Nat.mul_le_mul_right _ hle
         rw[Nat.add_mul] at hbnd
         refine⟨b,lo*e,cur,_,(0,0),rfl,hN b (by simp[add,Am.one]),hb,by rw[← he]; exact hbnd,?_⟩
         have hsh:=t0b (N':=v0r N F) o2.e _ _ F6 (fun x hx=>hN x (by have:=hF5 x; have:=hF6 x; simp only[add]; omega)) (fun _ h=> .inl h) h6
         rw[he] at hsh
         have hlist:((cur.toList.take (o2.xs.length*e)).drop (lo*e)).take (n*e)=(cur.toList.drop (lo*e)).take (n*e):=by
          rw[List.drop_take,List.take_take]
          congr 1
          have:(lo+n)*e≤o2.xs.length*e:=Nat.mul_le_mul_right _ hln
          rw[Nat.add_mul] at this
          omega
         rw[← hlist]
         exact hsh
 | pt e id st i f=>
   simp only[v0q] at h
   cases hlo:look σ.ob id with
   | none=>rw[hlo] at h; simp at h
   | some o1=>
     rw[hlo] at h
     simp only at h
     cases hga:getA o1.t o1.e o1.xs st with
     | none=>rw[hga] at h; simp at h
     | some o2=>
       rw[hga] at h
       simp only at h
       cases hrow:o2.xs[i]? with
       | none=>rw[hrow] at h; simp at h
       | some row=>
         rw[hrow] at h
         simp only at h
         split at h
         case isFalse=>cases h
         rename_i hcnd
         obtain⟨he,hfl,_⟩:=hcnd
         simp only[Option.some.injEq,Prod.mk.injEq] at h
         obtain⟨rfl,rfl⟩:=h
         refine⟨?_,fun h=>by cases h⟩
         obtain⟨_,b,cap,hres,hv⟩:=hr
         obtain⟨Ft,Fo,hle1,htm,hob⟩:=hh
         obtain⟨F1,F2,hle2,hO,_⟩:=y0d σ.ob Fo id o1 hlo hob
         obtain⟨l',F3,F4,hl',hO',rfl,_⟩:=v0u st hO hga
         rcases hO' with⟨_,hnil⟩ | ⟨b',cap',cur,F',hl2,hb,hl,hc,hs',hrows,rfl⟩
         ·rw[hnil] at hrow; simp at hrow
         ·have hbb:b=b'∧cap=cap':=by
           rcases hl' with h | h
           ·rw[hl2] at h; cases h
           ·rw[hres,hl2] at h; injection h with h; injection h with h1 h2; exact⟨h1,h2⟩
          obtain⟨rfl,rfl⟩:=hbb
          obtain⟨F5,hF5,hre,hrr,hbnd⟩:=t0a hrows hrow
          obtain⟨F6,hF6,hdr⟩:=s0o f hrr
          have hN: ∀x,1≤(add (Am.one b) F') x→v0r N F x:=fun x hx=>by
           right
           have h1:=hle1 x; have h2:=hle2 x
           simp only[add] at *; omega
          have hsh:=s0b (N':=v0r N F) _ _ F6 (fun x hx=>hN x (by have:=hF5 x; have:=hF6 x; simp only[add]; omega)) (fun _ h=> .inl h) hdr
          rw[List.length_take,Array.length_toList] at hbnd
          have hlen:(y04 (row.drop f)).length=o2.e - f:=by rw[o0n,List.length_map,List.length_drop,hre]
          rw[he] at hlen hbnd hsh
          refine⟨rfl,b,i*e+f,cur,_,(0,0),hv,hN b (by simp[add,Am.one]),hb,by rw[hlen]; omega,?_⟩
          have hlist:(((cur.toList.take (o2.xs.length*e)).drop (i*e)).take e).drop f=(cur.toList.drop (i*e+f)).take (y04 (row.drop f)).length:=by
           have hlt:i<o2.xs.length:=(List.getElem?_eq_some_iff.1 hrow).1
           have hmul:(i+1)*e≤o2.xs.length*e:=Nat.mul_le_mul_right _ hlt
           rw[Nat.add_mul,Nat.one_mul] at hmul
           rw[hlen,List.drop_take,List.drop_drop,List.drop_take,List.take_take,Nat.min_eq_left (by omega)]
          rw[← hlist]
          exact s0n hsh
 | ps cs=>
   simp only[v0q] at h
   split at h
   ·cases h
   ·exact key (by simp) (by simp) h
 | dead=>exact key (by simp) (by simp) h
 | int k n=>exact key (by simp) (by simp) h
 | bool b=>exact key (by simp) (by simp) h
 | str s=>exact key (by simp) (by simp) h
 | np=>exact key (by simp) (by simp) h
 | fn f cap=>
   simp only[v0q] at h
   split at h
   ·cases h
   ·exact key (by simp) (by simp) h
 | ar o t e xs=>exact key (by simp) (by simp) h
 | op t e cs=>
   simp only[v0q] at h
   split at h
   case isFalse=>cases h
   simp only[Option.some.injEq,Prod.mk.injEq] at h
   obtain⟨rfl,rfl⟩:=h
   simp only[repT,repC] at hr
   obtain⟨b,cur,F',rfl,hb,hl,hs,hrr,rfl⟩:=hr
   have go: ∀N':Nat→Prop,(∀x,1≤add (Am.one b) F' x→N' x)→(∀x,N x→N' x)→repT w N' lc (.ps (y04 cs)) (.pointer (some ⟨b,0,none⟩)) fz:=fun N' h1 h2=>by
    have hsh:=s0b (N':=N') _ _ F' (fun x hx=>h1 x (by simp only[add]; omega)) h2 hrr
    have hlen:(y04 cs).length=e:=by rw[o0n,List.length_map,hl]
    refine⟨rfl,b,0,cur,_,(0,0),rfl,h1 b (by simp[add,Am.one]),hb,by rw[hlen]; omega,?_⟩
    rw[List.drop_zero,hlen]
    exact s0n hsh
   exact⟨go _ (fun x hx=> .inr (Nat.le_trans hx (hle0 x))) fun x hx=> .inl hx,fun _ N' h3 h4=>go N' h3 h4⟩
end
end Go.Am
namespace Go.Am
section
variable {P:Program} {w:World} {N:Nat→Prop} {lc:Loc} {tmps:Array Value} {ds:List Deferred} {F G:Fp} {σ σ1:St}
theorem f0k: ∀{cs cs':List C} {b:Bool} {vs:List Value} {F0:Fp},u0k σ cs=some (b,cs')→z0m w N lc cs vs F0→(∀b,F0 b≤F b)→Hold w N lc σ tmps F G→
 z0m w (v0r N F) lc cs' vs fz∧(b=false→∀N',(∀b,1≤F0 b→N' b)→(∀b,N b→N' b)→z0m w N' lc cs' vs fz)
 | [],cs',b,vs,F0,h,hr,_,_=>by
   simp only[u0k,Option.some.injEq,Prod.mk.injEq] at h
   obtain⟨rfl,rfl⟩:=h
   exact⟨⟨hr.1,rfl⟩,fun _ _ _ _=>⟨hr.1,rfl⟩⟩
 | c :: cs,cs',b,vs,F0,h,hr,hle,hh=>by
   obtain⟨v,vs',F1,F2,rfl,rfl,h1,h2⟩:=hr
   simp only[u0k] at h
   split at h
   case h_2=>cases h
   rename_i b1 c1 b2 cs1 hc hcs
   simp only[Option.some.injEq,Prod.mk.injEq] at h
   obtain⟨rfl,rfl⟩:=h
   obtain⟨k1,k2⟩:=v01 hc h1 (fun b=>by have:=hle b; simp only[add] at this; omega) hh
   obtain⟨k3,k4⟩:=f0k hcs h2 (fun b=>by have:=hle b; simp only[add] at this; omega) hh
   refine⟨⟨v,vs',fz,fz,rfl,(z0g _).symm,k1,k3⟩,fun hb N' h3 h4=>?_⟩
   simp only[Bool.or_eq_false_iff] at hb
   exact⟨v,vs',fz,fz,rfl,(z0g _).symm,k2 hb.1 N' (fun b hb=>h3 b (by simp only[add]; omega)) h4,k4 hb.2 N' (fun b hb=>h3 b (by simp only[add]; omega)) h4⟩
theorem q1p {a a':A} {b:Bool} {g:Value} {F0:Fp} (h:q06 σ a=some (b,a')) (hr:repA w N lc a g F0) (hle: ∀b,F0 b≤F b) (hh:Hold w N lc σ tmps F G) :
 repA w (v0r N F) lc a' g fz∧(b=false→∀N',(∀b,1≤F0 b→N' b)→(∀b,N b→N' b)→repA w N' lc a' g fz):=by
 cases a with
 | one c=>
   simp only[q06] at h
   split at h
   case h_2=>cases h
   rename_i b1 c1 hc
   simp only[Option.some.injEq,Prod.mk.injEq] at h
   obtain⟨rfl,rfl⟩:=h
   exact v01 hc hr hle hh
 | agg cs=>
   simp only[q06] at h
   split at h
   case h_2=>cases h
   rename_i b1 c1 hc
   simp only[Option.some.injEq,Prod.mk.injEq] at h
   obtain⟨rfl,rfl⟩:=h
   obtain⟨vs,hg,hr⟩:=hr
   obtain⟨k1,k2⟩:=f0k hc hr hle hh
   exact⟨⟨vs,hg,k1⟩,fun hb N' h3 h4=>⟨vs,hg,k2 hb N' h3 h4⟩⟩
 | tup xs=>simp[q06] at h
theorem p0m: ∀{xs:List X} {os:List Operand} {b:Bool} {as:List A} {σ σ1:St} {G:Fp},u0r σ xs=some (b,as,σ1)→XL xs os→Hold w N lc σ tmps F G→
 ∃Gs,Hold w N lc σ1 tmps F (add G Gs)∧x07 w (v0r N F) lc as (os.map (Act.mk tmps ds).eval) fz∧
  (b=false→∀N',(∀b,1≤Gs b→N' b)→(∀b,N b→N' b)→x07 w N' lc as (os.map (Act.mk tmps ds).eval) fz)
 | [],os,b,as,σ,σ1,G,h,hx,hh=>by
   cases os with
   | cons=>exact hx.elim
   | nil=>
     simp only[u0r,Option.some.injEq,Prod.mk.injEq] at h
     obtain⟨rfl,rfl,rfl⟩:=h
     exact⟨fz,by rw[z0g]; exact hh,⟨rfl,rfl⟩,fun _ _ _ _=>⟨rfl,rfl⟩⟩
 | x :: xs,os,b,as,σ,σ1,G,h,hx,hh=>by
   cases os with
   | nil=>exact hx.elim
   | cons o os=>
     simp only[u0r] at h
     split at h
     case h_2=>cases h
     rename_i a0 σ2 ht
     split at h
     case h_2=>cases h
     rename_i b1 a1 hl
     split at h
     case h_2=>cases h
     rename_i b2 as2 σ3 hlx
     simp only[Option.some.injEq,Prod.mk.injEq] at h
     obtain⟨rfl,rfl,rfl⟩:=h
     obtain⟨G1,hr,hH,_,_⟩:=y0w (ds:=ds) hx.1 ht hh
     have hle: ∀b,G1 b≤F b:=fun b=>by
      obtain⟨Ft,Fo,hle,_,_⟩:=hH
      have:=hle b; simp only[add] at this; omega
     obtain⟨k1,k2⟩:=q1p hl hr hle hH
     obtain⟨Gs,hH2,k3,k4⟩:=p0m hlx hx.2 hH
     refine⟨add G1 Gs,by rw[← add_assoc]; exact hH2,⟨_,_,fz,fz,rfl,(z0g _).symm,k1,k3⟩,fun hb N' h3 h4=>?_⟩
     simp only[Bool.or_eq_false_iff] at hb
     exact⟨_,_,fz,fz,rfl,(z0g _).symm,k2 hb.1 N' (fun b hb=>h3 b (by simp only[add]; omega)) h4,k4 hb.2 N' (fun b hb=>h3 b (by simp only[add]; omega)) h4⟩
theorem h17 {N':Nat→Prop} {tm:List (Nat×A)} {Ft:Fp} (hN: ∀b,N b→N' b) (h:x0u w N lc tmps tm Ft):x0u w N' lc tmps tm Ft:=
 u0y tmps tm Ft (fun _ _=>rfl) hN (fun _ _ _ h=>h) h
def q0i (P:Program) (d:Option Nat) (f:Nat) (xs:List X) (K:St→Prop) (σ:St):Prop:=
 match u0r σ xs with
 | some (b,as,σ1)=>CallsA P f as [] fun r H'=>H'=[]∧(b=true→u0s r=true)∧K (setT σ1 d r)
 | none=>False
def SR (w0:World) (F0:Fp) (N0:Nat→Prop) (lc0:Loc) (n:Nat) (σ:St) (a:Act) (w:World):Prop:=
 a.defers=[]∧a.tmps.size=n∧∃(N:Nat→Prop) (lc:Loc) (F:Fp),Base w N F∧Hold w N lc σ a.tmps F fz∧Fr w0 F0 N0 lc0 w F N lc
theorem x06 (a:Act) (d:Option Nat) (v:Value):(a.put d v).tmps.size=a.tmps.size:=by
 cases d <;> simp[Act.put]
theorem y0i (a:Act) (d:Option Nat) (v:Value):(a.put d v).defers=a.defers:=by
 cases d <;> rfl
structure Qw (w w':World):Prop where
 blk:Agree w w'
 size:w.heap.size≤w'.heap.size
 os:w'.os=w.os
 tape:w'.tape=w.tape
 out:w'.output=w.output
theorem Qw.refl (w:World):Qw w w:=⟨Agree.refl w,Nat.le_refl _,rfl,rfl,rfl⟩
theorem Qw.trans {a b c:World} (h:Qw a b) (k:Qw b c):Qw a c:=
 ⟨fun x hx=>(k.blk x (Nat.lt_of_lt_of_le hx h.size)).trans (h.blk x hx),Nat.le_trans h.size k.size,k.os.trans h.os,k.tape.trans h.tape,k.out.trans h.out⟩
theorem k0y {o:Oper} {f:Nat} {gs:List Value} {K:St→Prop} {w0:World} {F0:Fp} {N0:Nat→Prop} {lc0:Loc} {n:Nat} {Q:Exit→Act→World→Prop} {Gs:Fp} {b:Bool} {as:List A}
 (hrun:(execOp (Act.mk tmps ds).eval o).run P w = .ok (.enter f gs.toArray) w) (hd: ∀k,o.dst=some k→k<n) (hdef:ds=[]) (hn:tmps.size=n) (hB:Base w N F) (hFr:Fr w0 F0 N0 lc0 w F N lc)
 (hH:Hold w N lc σ1 tmps F (add fz Gs)) (k1:x07 w (v0r N F) lc as gs fz) (k2:b=false→∀N',(∀x,1≤Gs x→N' x)→(∀x,N x→N' x)→x07 w N' lc as gs fz) (hrefs: ∀a∈as,a.ref inR=false)
 (h:CallsA P f as [] fun r H'=>H'=[]∧(b=true→u0s r=true)∧K (setT σ1 o.dst r)):o.wp P ⟨tmps,ds⟩ w (fun a' w'=>(∃σ',K σ'∧SR w0 F0 N0 lc0 n σ' a' w')∧Qw w w') Q:=by
 unfold Oper.wp
 rw[hrun,Oper.upon_enter]
 have hcall: ∃(N1:Nat→Prop) (F1:Fp) (Nc:Nat→Prop),Base w N1 F1∧Hold w N1 lc σ1 tmps F1 fz∧Fr w F N lc w F1 N1 lc∧Base w Nc fz∧x07 w Nc lc as gs fz∧(∀x,Nc x→N1 x∨(b=true∧1≤F1 x)):=by
  cases b with
  | false=>
    obtain⟨h3,h4,h5⟩:=p0e hB hH
    refine⟨_,_,frzN N Gs,h3,h4,h5,⟨fun _=>by simp[fz],fun x hx=>by simp[fz] at hx,fun x hx=>⟨rfl,?_⟩⟩,k2 rfl _ (fun x hx=> .inr hx) (fun x hx=> .inl hx),fun x hx=> .inl hx⟩
    exact (h3.nb x hx).2
  | true=>
    refine⟨N,F,v0r N F,hB,?_,Fr.refl ..,⟨fun _=>by simp[fz],fun x hx=>by simp[fz] at hx,fun x hx=>⟨rfl,?_⟩⟩,k1,fun x hx=>hx.imp id fun h=>⟨rfl,h⟩⟩
    ·obtain⟨Ft,Fo,hle,ht,ho⟩:=hH
     exact⟨Ft,Fo,fun x=>by have:=hle x; simp only[add,fz] at *; omega,ht,ho⟩
    ·rcases hx with hx | hx
     ·exact (hB.nb x hx).2
     ·exact hB.lt x hx
 obtain⟨N1,F1,Nc,hB1,hH1,hFr1,hBc,hrep,hNc⟩:=hcall
 refine (h w Nc lc _ fz fz fz hBc (fun _=>Nat.le_refl _) hrefs hrep rfl).mono ?_
 rintro e w' ⟨g,r,H',N',lc',F',Fr',Fo',rfl,⟨rfl,hnosh,hK⟩,hB',hr,hob,hle',hnr,hFr'⟩
 have hFz: ∀x,x<w.heap.size→F' x=0:=fun x hx=>by
  rcases Nat.eq_zero_or_pos (F' x) with h | h
  ·exact h
  ·rcases hFr'.fp x h with h2 | h2
   ·simp[fz] at h2
   ·omega
 have hF1z: ∀x,w.heap.size≤x→F1 x=0:=fun x hx=>by
  rcases Nat.eq_zero_or_pos (F1 x) with h | h
  ·exact h
  ·have:=hB1.lt x h; omega
 have hgrow: ∀x,x<w.heap.size→w'.heap[x]?=w.heap[x]?:=fun x hx=>hFr'.keep x hx rfl
 let N2:Nat→Prop:=fun x=>N1 x∨(b=false∧N' x∧w.heap.size≤x)
 have hN2: ∀x,N1 x→N2 x:=fun x hx=> .inl hx
 have hres:repA w' N2 lc r g Fr':=by
  have hrl: ∀N3:Nat→Prop,(∀x,N' x→N3 x)→repA w' N3 lc r g Fr':=fun N3 h3=>
   w0f (p:=fun _ _=>true) r g Fr' (fun _ _=>rfl) h3 (fun _ _ h=>by cases h) hnr hr
  cases hb:b with
  | true=>exact p0v (hnosh hb) (hrl N' fun _ h=>h)
  | false=>
    refine hrl N2 fun x hx=>?_
    rcases hFr'.nr x hx with h | h | h
    ·rcases hNc x h with h | ⟨h,_⟩
     ·exact .inl h
     ·rw[hb] at h; cases h
    ·simp[fz] at h
    ·exact .inr ⟨hb,hx,h⟩
 have hB2:Base w' N2 (add F1 F'):=by
  refine⟨fun x=>?_,fun x hx=>?_,fun x hx=>?_⟩
  ·have h1:=hB1.one x; have h2:=hB'.one x
   rcases Nat.lt_or_ge x w.heap.size with h | h
   ·have:=hFz x h; simp only[add]; omega
   ·have:=hF1z x h; simp only[add]; omega
  ·simp only[add] at hx
   rcases Nat.lt_or_ge x w.heap.size with h | h
   ·exact Nat.lt_of_lt_of_le h hFr'.size
   ·have:=hF1z x h; exact hB'.lt x (by omega)
  ·rcases hx with hx | ⟨_,hx,hge⟩
   ·have:=hB1.nb x hx
    exact⟨by simp only[add]; rw[this.1,hFz x this.2],Nat.lt_of_lt_of_le this.2 hFr'.size⟩
   ·have:=hB'.nb x hx
    exact⟨by simp only[add]; rw[this.1,hF1z x hge],this.2⟩
 refine⟨⟨setT σ1 o.dst r,hK,by rw[y0i]; exact hdef,by rw[x06]; exact hn,N2,lc,add F1 F',hB2,?_,hFr.trans (hFr1.trans ?_)⟩,⟨hgrow,hFr'.size,hFr'.os,hFr'.tape,hFr'.output⟩⟩
 ·have h1:=u04 hgrow hB1 hH1
  obtain⟨Ft,Fo,hle,ht,ho2⟩:=h1
  have h2:Hold w' N2 lc σ1 tmps (add F1 F') (add fz Fr'):=by
   refine⟨Ft,Fo,fun x=>?_,h17 hN2 ht,y0q σ1.ob Fo (fun _ _=>rfl) hN2 (fun _ _ _=>rfl) ho2⟩
   have h3:=hle x; have h4:=hle' x; simp only[add,fz] at *; omega
  exact y0j (ds:=ds) h2 hres (fun k hk=>by rw[hn]; exact hd k hk)
 ·exact⟨hFr'.os,hFr'.tape,hFr'.output,hFr'.size,fun x hx _=>hgrow x hx,fun x hx=>by
   simp only[add] at hx
   rcases Nat.lt_or_ge x w.heap.size with h | h
   ·have:=hFz x h; left; omega
   ·exact .inr h,hN2,fun x hx=>hx.imp id fun h=> .inr h.2.2,fun _ _=>rfl⟩
theorem r01 {o:Oper} {f:Nat} {fn:Func} {c:Call} {xs:List X} {os:List Operand} {K:St→Prop} {w0:World} {F0:Fp} {N0:Nat→Prop} {lc0:Loc} {n:Nat} {a:Act} {Q:Exit→Act→World→Prop}
 (ho:o.op = .call c) {x0:Operand} (hc:c.callee = .value x0) (hev:(Act.mk a.tmps a.defers).eval x0 = .func (.func f) #[] #[]) (hargs:c.args=os.toArray) (hf:P.funcs[f]?=some fn) (hname:(fn.name == "runtime.NumGoroutine")=false) (hbody:fn.body.isNone=false) (hx:XL xs os) (hd: ∀k,o.dst=some k→k<n)
 (h:q0i P o.dst f xs K σ) (hs:SR w0 F0 N0 lc0 n σ a w):o.wp P a w (fun a' w'=>(∃σ',K σ'∧SR w0 F0 N0 lc0 n σ' a' w')∧Qw w w') Q:=by
 obtain⟨hdef,hn,N,lc,F,hB,hh,hFr⟩:=hs
 obtain⟨tmps,ds⟩:=a
 simp only at hdef hn hh
 unfold q0i at h
 split at h
 case h_2=>exact h.elim
 rename_i b as σ1 hl
 obtain⟨Gs,hH,k1,k2⟩:=p0m (ds:=ds) hl hx hh
 have hrun:(execOp (Act.mk tmps ds).eval o).run P w = .ok (.enter f (os.map (Act.mk tmps ds).eval).toArray) w:=by
  simp only[execOp,ho,resolve,hc,hargs,hev,Deferred.ofValue,Sem.run_bind,Sem.run_pure,Result.andThen_ok,invoke,callFunc,run_program,hf,hname,hbody,Bool.false_eq_true,if_false,List.map_toArray,Array.empty_append,Array.append_empty,Array.toList_empty,List.append_nil,List.nil_append]
 exact k0y hrun hd hdef hn hB hFr hH k1 k2 (s08 hl) h
theorem r1a {o:Oper} {f:Nat} {fn:Func} {c:Call} {xs:List X} {os:List Operand} {K:St→Prop} {w0:World} {F0:Fp} {N0:Nat→Prop} {lc0:Loc} {n:Nat} {a:Act} {Q:Exit→Act→World→Prop}
 (ho:o.op = .call c) {x0:Operand} (hc:c.callee = .value x0) (hev:(Act.mk a.tmps a.defers).eval x0 = .func (.func f) #[] #[]) (hargs:c.args=os.toArray) (hf:P.funcs[f]?=some fn) (hname:(fn.name == "runtime.NumGoroutine")=false) (hbody:fn.body.isNone=false) (hx:XL xs os) (hd: ∀k,o.dst=some k→k<n)
 (h:q0i P o.dst f xs K σ) (hs:SR w0 F0 N0 lc0 n σ a w):o.wp P a w (fun a' w'=>∃σ',K σ'∧SR w0 F0 N0 lc0 n σ' a' w') Q:=
 Oper.wp_mono (fun _ _ h=>h.1) (r01 ho hc hev hargs hf hname hbody hx hd h hs)
end
end Go.Am
namespace Go.Am
abbrev Ren:=Nat→Path→Option (Nat×Path)
def renC (ρ:Ren) (root:Nat) (σ:St):C→Option (Bool×C)
 | .vw t e id st lo n=>if id=root then
    match ρ id st with
    | some (id',q)=>some (false,.vw t e id' q lo n)
    | none=>none
   else v0q σ (.vw t e id st lo n)
 | .pt e id st i f=>if id=root then
    match ρ id st with
    | some (id',q)=>some (false,.pt e id' q i f)
    | none=>none
   else none
 | c=>v0q σ c
def h0m (ρ:Ren) (root:Nat) (σ:St):List C→Option (Bool×List C)
 | []=>some (false,[])
 | c :: cs=>match renC ρ root σ c,h0m ρ root σ cs with
   | some (b,c'),some (b',cs')=>some (b || b',c' :: cs')
   | _,_=>none
def renA (ρ:Ren) (root:Nat) (σ:St):A→Option (Bool×A)
 | .one c=>match renC ρ root σ c with
   | some (b,c')=>some (b,.one c')
   | none=>none
 | .agg cs=>match h0m ρ root σ cs with
   | some (b,cs')=>some (b,.agg cs')
   | none=>none
 | .tup _=>none
def renX (ρ:Ren) (root:Nat) (σ:St):List X→Option (Bool×List A×St)
 | []=>some (false,[],σ)
 | x :: xs=>match v06 σ x with
   | some (a,σ1)=>match renA ρ root σ1 a with
     | some (b,a')=>match renX ρ root σ1 xs with
       | some (b',as,σ2)=>some (b || b',a' :: as,σ2)
       | none=>none
     | none=>none
   | none=>none
def n0b (w:World) (lc lcH:Loc) (root:Nat) (ρ:Ren):Prop:=∀p id' q,ρ root p=some (id',q)→1000≤id'∧resF w (lc root) p=resF w (lcH id') q
section
variable {P:Program} {w:World} {N:Nat→Prop} {lc lcH:Loc} {tmps:Array Value} {ds:List Deferred} {F G:Fp} {σ σ1:St} {root:Nat} {ρ:Ren}
theorem y0z {c:C} {g:Value} {N':Nat→Prop} {lc':Loc} (hr:c.ref (fun _ _=>true)=false) (h:repT w N' lc c g fz):repT w N' lc' c g fz:=
 r0f (p:=fun _ _=>true) c g fz (fun _ _=>rfl) (fun _ h=>h) (fun _ _ h=>by cases h) hr h
theorem t16 (hρ:n0b w lc lcH root ρ) {c c':C} {b:Bool} {g:Value} {F0:Fp} (h:renC ρ root σ c=some (b,c')) (hr:repT w N lc c g F0) (hle0: ∀b,F0 b≤F b) (hh:Hold w N lc σ tmps F G) :
 repT w (v0r N F) lcH c' g fz∧(b=false→∀N',(∀b,1≤F0 b→N' b)→(∀b,N b→N' b)→repT w N' lcH c' g fz):=by
 have hlend:v0q σ c=some (b,c')→repT w (v0r N F) lcH c' g fz∧(b=false→∀N',(∀b,1≤F0 b→N' b)→(∀b,N b→N' b)→repT w N' lcH c' g fz):=by
  intro h
  obtain⟨k1,k2⟩:=v01 h hr hle0 hh
  exact⟨y0z (z0v h) k1,fun hb N' h1 h2=>y0z (z0v h) (k2 hb N' h1 h2)⟩
 cases c with
 | vw t e id st lo n=>
   simp only[renC] at h
   split at h
   ·rename_i hid
    subst hid
    split at h
    case h_2=>cases h
    rename_i id' q hq
    simp only[Option.some.injEq,Prod.mk.injEq] at h
    obtain⟨rfl,rfl⟩:=h
    have key: ∀N',repT w N' lcH (.vw t e id' q lo n) g fz:=by
     intro N'
     obtain⟨_,h⟩:=hr
     rw[(hρ _ _ _ hq).2] at h
     exact⟨rfl,h⟩
    exact⟨key _,fun _ N' _ _=>key N'⟩
   ·exact hlend h
 | pt e id st i f=>
   simp only[renC] at h
   split at h
   case isFalse=>cases h
   rename_i hid
   subst hid
   split at h
   case h_2=>cases h
   rename_i id' q hq
   simp only[Option.some.injEq,Prod.mk.injEq] at h
   obtain⟨rfl,rfl⟩:=h
   have key: ∀N',repT w N' lcH (.pt e id' q i f) g fz:=by
    intro N'
    obtain⟨_,h⟩:=hr
    rw[(hρ _ _ _ hq).2] at h
    exact⟨rfl,h⟩
   exact⟨key _,fun _ N' _ _=>key N'⟩
 | _=>exact hlend h
theorem a0s (hρ:n0b w lc lcH root ρ): ∀{cs cs':List C} {b:Bool} {vs:List Value} {F0:Fp},h0m ρ root σ cs=some (b,cs')→z0m w N lc cs vs F0→(∀b,F0 b≤F b)→Hold w N lc σ tmps F G→
 z0m w (v0r N F) lcH cs' vs fz∧(b=false→∀N',(∀b,1≤F0 b→N' b)→(∀b,N b→N' b)→z0m w N' lcH cs' vs fz)
 | [],cs',b,vs,F0,h,hr,_,_=>by
   simp only[h0m,Option.some.injEq,Prod.mk.injEq] at h
   obtain⟨rfl,rfl⟩:=h
   exact⟨⟨hr.1,rfl⟩,fun _ _ _ _=>⟨hr.1,rfl⟩⟩
 | c :: cs,cs',b,vs,F0,h,hr,hle,hh=>by
   obtain⟨v,vs',F1,F2,rfl,rfl,h1,h2⟩:=hr
   simp only[h0m] at h
   split at h
   case h_2=>cases h
   rename_i b1 c1 b2 cs1 hc hcs
   simp only[Option.some.injEq,Prod.mk.injEq] at h
   obtain⟨rfl,rfl⟩:=h
   obtain⟨k1,k2⟩:=t16 hρ hc h1 (fun b=>by have:=hle b; simp only[add] at this; omega) hh
   obtain⟨k3,k4⟩:=a0s hρ hcs h2 (fun b=>by have:=hle b; simp only[add] at this; omega) hh
   refine⟨⟨v,vs',fz,fz,rfl,(z0g _).symm,k1,k3⟩,fun hb N' h3 h4=>?_⟩
   simp only[Bool.or_eq_false_iff] at hb
   exact⟨v,vs',fz,fz,rfl,(z0g _).symm,k2 hb.1 N' (fun b hb=>h3 b (by simp only[add]; omega)) h4,k4 hb.2 N' (fun b hb=>h3 b (by simp only[add]; omega)) h4⟩
theorem h13 (hρ:n0b w lc lcH root ρ) {a a':A} {b:Bool} {g:Value} {F0:Fp} (h:renA ρ root σ a=some (b,a')) (hr:repA w N lc a g F0) (hle: ∀b,F0 b≤F b) (hh:Hold w N lc σ tmps F G) :
 repA w (v0r N F) lcH a' g fz∧(b=false→∀N',(∀b,1≤F0 b→N' b)→(∀b,N b→N' b)→repA w N' lcH a' g fz):=by
 cases a with
 | one c=>
   simp only[renA] at h
   split at h
   case h_2=>cases h
   rename_i b1 c1 hc
   simp only[Option.some.injEq,Prod.mk.injEq] at h
   obtain⟨rfl,rfl⟩:=h
   exact t16 hρ hc hr hle hh
 | agg cs=>
   simp only[renA] at h
   split at h
   case h_2=>cases h
   rename_i b1 c1 hc
   simp only[Option.some.injEq,Prod.mk.injEq] at h
   obtain⟨rfl,rfl⟩:=h
   obtain⟨vs,hg,hr⟩:=hr
   obtain⟨k1,k2⟩:=a0s hρ hc hr hle hh
   exact⟨⟨vs,hg,k1⟩,fun hb N' h3 h4=>⟨vs,hg,k2 hb N' h3 h4⟩⟩
 | tup xs=>simp[renA] at h
theorem t1c (hρ:n0b w lc lcH root ρ): ∀{xs:List X} {os:List Operand} {b:Bool} {as:List A} {σ σ1:St} {G:Fp},renX ρ root σ xs=some (b,as,σ1)→XL xs os→Hold w N lc σ tmps F G→
 ∃Gs,Hold w N lc σ1 tmps F (add G Gs)∧σ1.ob=σ.ob∧x07 w (v0r N F) lcH as (os.map (Act.mk tmps ds).eval) fz∧
  (b=false→∀N',(∀b,1≤Gs b→N' b)→(∀b,N b→N' b)→x07 w N' lcH as (os.map (Act.mk tmps ds).eval) fz)
 | [],os,b,as,σ,σ1,G,h,hx,hh=>by
   cases os with
   | cons=>exact hx.elim
   | nil=>
     simp only[renX,Option.some.injEq,Prod.mk.injEq] at h
     obtain⟨rfl,rfl,rfl⟩:=h
     exact⟨fz,by rw[z0g]; exact hh,rfl,⟨rfl,rfl⟩,fun _ _ _ _=>⟨rfl,rfl⟩⟩
 | x :: xs,os,b,as,σ,σ1,G,h,hx,hh=>by
   cases os with
   | nil=>exact hx.elim
   | cons o os=>
     simp only[renX] at h
     split at h
     case h_2=>cases h
     rename_i a0 σ2 ht
     split at h
     case h_2=>cases h
     rename_i b1 a1 hl
     split at h
     case h_2=>cases h
     rename_i b2 as2 σ3 hlx
     simp only[Option.some.injEq,Prod.mk.injEq] at h
     obtain⟨rfl,rfl,rfl⟩:=h
     obtain⟨G1,hr,hH,hob,_⟩:=y0w (ds:=ds) hx.1 ht hh
     have hle: ∀b,G1 b≤F b:=fun b=>by
      obtain⟨Ft,Fo,hle,_,_⟩:=hH
      have:=hle b; simp only[add] at this; omega
     obtain⟨k1,k2⟩:=h13 hρ hl hr hle hH
     obtain⟨Gs,hH2,hob2,k3,k4⟩:=t1c hρ hlx hx.2 hH
     refine⟨add G1 Gs,by rw[← add_assoc]; exact hH2,hob2.trans hob,⟨_,_,fz,fz,rfl,(z0g _).symm,k1,k3⟩,fun hb N' h3 h4=>?_⟩
     simp only[Bool.or_eq_false_iff] at hb
     exact⟨_,_,fz,fz,rfl,(z0g _).symm,k2 hb.1 N' (fun b hb=>h3 b (by simp only[add]; omega)) h4,k4 hb.2 N' (fun b hb=>h3 b (by simp only[add]; omega)) h4⟩
theorem a0r (hρ:n0b w lc lcH root ρ) {c c':C} {b:Bool} (h:renC ρ root σ c=some (b,c')):c'.ref inR=false:=by
 cases c with
 | vw t e id st lo n=>
   simp only[renC] at h
   split at h
   ·rename_i hid
    subst hid
    split at h
    case h_2=>cases h
    rename_i id' q hq
    simp only[Option.some.injEq,Prod.mk.injEq] at h
    obtain⟨_,rfl⟩:=h
    have:=(hρ _ _ _ hq).1
    simp only[C.ref,inR,decide_eq_false_iff_not]
    omega
   ·exact z0v h
 | pt e id st i f=>
   simp only[renC] at h
   split at h
   ·rename_i hid
    subst hid
    split at h
    case h_2=>cases h
    rename_i id' q hq
    simp only[Option.some.injEq,Prod.mk.injEq] at h
    obtain⟨_,rfl⟩:=h
    have:=(hρ _ _ _ hq).1
    simp only[C.ref,inR,decide_eq_false_iff_not]
    omega
   ·cases h
 | _=>simp only[renC] at h; exact z0v h
theorem e02 (hρ:n0b w lc lcH root ρ): ∀{cs cs':List C} {b:Bool},h0m ρ root σ cs=some (b,cs')→x0f inR cs'=false
 | [],cs',b,h=>by
   simp only[h0m,Option.some.injEq,Prod.mk.injEq] at h
   obtain⟨_,rfl⟩:=h
   rfl
 | c :: cs,cs',b,h=>by
   simp only[h0m] at h
   split at h
   case h_2=>cases h
   rename_i b1 c1 b2 cs1 hc hcs
   simp only[Option.some.injEq,Prod.mk.injEq] at h
   obtain⟨_,rfl⟩:=h
   simp only[x0f,a0r hρ hc,e02 hρ hcs,Bool.or_self]
theorem p12 (hρ:n0b w lc lcH root ρ) {a a':A} {b:Bool} (h:renA ρ root σ a=some (b,a')):a'.ref inR=false:=by
 cases a with
 | one c=>
   simp only[renA] at h
   split at h
   case h_2=>cases h
   rename_i hc
   simp only[Option.some.injEq,Prod.mk.injEq] at h
   obtain⟨_,rfl⟩:=h
   exact a0r hρ hc
 | agg cs=>
   simp only[renA] at h
   split at h
   case h_2=>cases h
   rename_i hc
   simp only[Option.some.injEq,Prod.mk.injEq] at h
   obtain⟨_,rfl⟩:=h
   exact e02 hρ hc
 | tup xs=>simp[renA] at h
theorem a0v (hρ:n0b w lc lcH root ρ): ∀{xs:List X} {as:List A} {b:Bool} {σ σ1:St},renX ρ root σ xs=some (b,as,σ1)→∀a∈as,a.ref inR=false
 | [],as,b,σ,σ1,h,a,ha=>by
   simp only[renX,Option.some.injEq,Prod.mk.injEq] at h
   obtain⟨_,rfl,_⟩:=h
   cases ha
 | x :: xs,as,b,σ,σ1,h,a,ha=>by
   simp only[renX] at h
   split at h
   case h_2=>cases h
   split at h
   case h_2=>cases h
   rename_i hl
   split at h
   case h_2=>cases h
   rename_i hlx
   simp only[Option.some.injEq,Prod.mk.injEq] at h
   obtain⟨_,rfl,_⟩:=h
   rcases List.mem_cons.1 ha with rfl | ha
   ·exact p12 hρ hl
   ·exact a0v hρ hlx a ha
theorem t1i {N':Nat→Prop} {l:Option (Nat×Nat)} {t e:Nat} {xs:List (List C)} {F:Fp} (hn:y0c xs=true) (h:repO w N l t e xs F):repO w N' l t e xs F:=by
 rcases h with h | ⟨b,cap,cur,F',hl,hb,hn2,hc,hs,hr,hF⟩
 ·exact .inl h
 ·exact .inr ⟨b,cap,cur,F',hl,hb,hn2,hc,hs,r0e e xs _ F' hn hr,hF⟩
def r06:List (Nat×Obj)→Bool
 | []=>true
 | (_,o) :: r=>y0c o.xs && r06 r
theorem o0k {N':Nat→Prop}: ∀{H:List (Nat×Obj)} {F:Fp},r06 H=true→y03 w N lc H F→y03 w N' lc H F
 | [],_,_,h=>h
 | (id,o) :: r,F,hn,h=>by
   simp only[r06,Bool.and_eq_true] at hn
   simp only[y03] at h ⊢
   obtain⟨F1,F2,hF,h1,h2⟩:=h
   exact⟨F1,F2,hF,t1i hn.1 h1,o0k hn.2 h2⟩
theorem j0l {p:Nat→Path→Bool}: ∀xs:List (Bool×List C),t07 (fun _ _=>true) xs=false→t07 p xs=false
 | [],_=>rfl
 | (_,cs) :: r,h=>by
   simp only[t07,Bool.or_eq_false_iff] at h ⊢
   exact⟨w0x cs h.1,j0l r h.2⟩
theorem a0q {p:Nat→Path→Bool} (a:A) (h:a.ref (fun _ _=>true)=false):a.ref p=false:=by
 cases a with
 | one c=>exact t14 c h
 | agg cs=>exact w0x cs h
 | tup xs=>exact j0l xs h
theorem e05 {lc':Loc} {N':Nat→Prop} (hN: ∀b,N b→N' b): ∀{as:List A} {gs:List Value} {F:Fp},(∀a∈as,a.ref (fun _ _=>true)=false)→x07 w N lc as gs F→x07 w N' lc' as gs F
 | [],_,_,_,h=>h
 | a :: as,gs,F,hr,⟨g,gs',F1,F2,hg,hF,h1,h2⟩=>
   ⟨g,gs',F1,F2,hg,hF,w0f (p:=fun _ _=>true) a g F1 (fun _ _=>rfl) hN (fun _ _ h=>by cases h) (hr a (List.mem_cons_self ..)) h1,e05 hN (fun a ha=>hr a (List.mem_cons_of_mem _ ha)) h2⟩
theorem j0p: ∀{as as':List A} {gs gs':List Value} {F F':Fp},x07 w N lc as gs F→x07 w N lc as' gs' F'→x07 w N lc (as ++ as') (gs ++ gs') (add F F')
 | [],_,_,_,_,_,⟨hg,hF⟩,h'=>by subst hg; subst hF; rw[v0c]; exact h'
 | _ :: _,_,_,_,_,_,⟨g,gs1,F1,F2,hg,hF,h1,h2⟩,h'=>by
   subst hg; subst hF
   exact⟨g,_,F1,_,rfl,by rw[add_assoc],h1,j0p h2 h'⟩
theorem g0e {o:Oper} {f:Nat} {fn:Func} {c:Call} {xs:List X} {os os1:List Operand} {K:St→Prop} {w0:World} {F0:Fp} {N0:Nat→Prop} {lc0:Loc} {n:Nat} {Q:Exit→Act→World→Prop}
 (ho:o.op = .call c) (hc:c.callee = .value (.func f)) (hargs:c.args=(os ++ os1).toArray) (hf:P.funcs[f]?=some fn) (hname:(fn.name == "runtime.NumGoroutine")=false) (hbody:fn.body.isNone=false) (hx:XL xs os) (hd: ∀k,o.dst=some k→k<n)
 (hdef:ds=[]) (hn:tmps.size=n) (hB:Base w N F) (hFr:Fr w0 F0 N0 lc0 w F N lc) {Fr0 Fg Fx Ft Fre:Fp} {as1:List A} (href1: ∀a∈as1,a.ref (fun _ _=>true)=false) (hrep1:x07 w N lc as1 (os1.map (Act.mk tmps ds).eval) Fg) {H:List (Nat×Obj)} {Rest:List (Nat×Obj)→Obj→Prop} {b:Bool} {as:List A}
 (hρ:n0b w lc lcH root ρ) (htm:x0u w N lc tmps σ.tm Ft) (hrest:y03 w N lc (del σ.ob root) Fre) (hleF: ∀y,Fr0 y+Fg y+Fx y+Ft y+Fre y≤F y) (hobc:y03 w N lcH H Fr0)
 (hRid: ∀H' on,Rest H' on→∀id o,(id,o)∈H'→1000≤id)
 (hback: ∀(w':World) (N':Nat→Prop) (H':List (Nat×Obj)) (on:Obj) (Fa:Fp),Rest H' on→(∀y,1≤Fx y∨N y→w'.heap[y]?=w.heap[y]?)→(∀y,N y→N' y)→y03 w' N' lcH H' Fa→
   ∃Fe:Fp,(∀y,Fe y≤Fa y+Fx y)∧repO w' N' (lc root) on.t on.e on.xs Fe)
 (hl:renX ρ root { σ with ob:=del σ.ob root } xs=some (b,as,σ1))
 (h:CallsA P f (as ++ as1) H fun r H'=>∃on,Rest H' on∧(b=true→u0s r=true∧r06 H'=true)∧K (setT { tm:=w0u deep σ1.tm,ob:=put σ1.ob root on } o.dst r)) :
 o.wp P ⟨tmps,ds⟩ w (fun a' w'=>∃σ',K σ'∧SR w0 F0 N0 lc0 n σ' a' w') Q:=by
 let FrT:Fp:=fun y=>Fr0 y+Fg y
 have hFT: ∀y,FrT y=Fr0 y+Fg y:=fun _=>rfl
 have hsub: ∀y,FrT y≤F y:=fun y=>by have:=hleF y; have:=hFT y; omega
 let Fm:Fp:=fun y=>F y - FrT y
 have hFm: ∀y,Fm y+FrT y=F y:=fun y=>by have:=hsub y; show F y - FrT y+FrT y=F y; omega
 have hBm:Base w N Fm:=⟨fun y=>by have:=hB.one y; have:=hFm y; omega,fun y hy=>hB.lt y (by have:=hFm y; omega),fun y hy=>⟨by have:=(hB.nb y hy).1; have:=hFm y; omega,(hB.nb y hy).2⟩⟩
 have hHm:Hold w N lc { σ with ob:=del σ.ob root } tmps Fm Fx:=⟨Ft,Fre,fun y=>by have:=hleF y; have:=hFm y; have:=hFT y; omega,htm,hrest⟩
 obtain⟨Gs,hH,hobeq,k1,k2⟩:=t1c (ds:=ds) hρ hl hx hHm
 have hrun:(execOp (Act.mk tmps ds).eval o).run P w = .ok (.enter f ((os ++ os1).map (Act.mk tmps ds).eval).toArray) w:=by
  have hev:(Act.mk tmps ds).eval (.func f) = .func (.func f) #[] #[]:=rfl
  simp only[execOp,ho,resolve,hc,hargs,hev,Deferred.ofValue,Sem.run_bind,Sem.run_pure,Result.andThen_ok,invoke,callFunc,run_program,hf,hname,hbody,Bool.false_eq_true,if_false,List.map_toArray,Array.empty_append,Array.append_empty,Array.toList_empty,List.append_nil,List.nil_append]
 unfold Oper.wp
 rw[hrun,Oper.upon_enter]
 have hcall: ∃(N1:Nat→Prop) (F1:Fp) (Nc:Nat→Prop),Base w N1 F1∧Hold w N1 lc σ1 tmps F1 Fx∧Fr w Fm N lc w F1 N1 lc∧(∀y,F1 y≤Fm y)∧(∀y,Nc y→FrT y=0∧y<w.heap.size)∧x07 w Nc lcH as (os.map (Act.mk tmps ds).eval) fz∧
  (∀y,Nc y→N1 y∨(b=true∧1≤F1 y))∧(∀y,N1 y→Nc y)∧(∀y,N y→Nc y):=by
  cases b with
  | false=>
    obtain⟨h3,h4,h5⟩:=p0e hBm hH
    have hGs: ∀y,Gs y≤Fm y:=fun y=>by
     obtain⟨_,_,hle3,_,_⟩:=hH
     have:=hle3 y; simp only[add,fz] at this; omega
    refine⟨_,_,frzN N Gs,h3,h4,h5,fun y=>?_,fun y hy=>?_,k2 rfl _ (fun y hy=> .inr hy) (fun y hy=> .inl hy),fun y hy=> .inl hy,fun y hy=>hy,fun y hy=> .inl hy⟩
    ·unfold frzF; split <;> omega
    ·refine⟨?_,(h3.nb y hy).2⟩
     have h6:=hFm y
     rcases hy with hy | hy
     ·have:=(hB.nb y hy).1; omega
     ·have:=hGs y; have:=hB.one y; omega
  | true=>
    refine⟨N,Fm,v0r N Fm,hBm,?_,Fr.refl ..,fun _=>Nat.le_refl _,fun y hy=>?_,k1,fun y hy=>hy.imp id fun h=>⟨rfl,h⟩,fun y hy=> .inl hy,fun y hy=> .inl hy⟩
    ·obtain⟨Ft2,Fo2,hle3,ht2,ho2⟩:=hH
     exact⟨Ft2,Fo2,fun y=>by have:=hle3 y; simp only[add,fz] at *; omega,ht2,ho2⟩
    ·have h6:=hFm y
     rcases hy with hy | hy
     ·exact⟨by have:=(hB.nb y hy).1; omega,(hB.nb y hy).2⟩
     ·exact⟨by have:=hB.one y; omega,hBm.lt y hy⟩
 obtain⟨N1,F1,Nc,hB1,hH1,hFr1,hF1m,hNc0,hrep,hNc,hN1c,hNNc⟩:=hcall
 have hBc:Base w Nc FrT:=⟨fun y=>by have:=hB.one y; have:=hsub y; omega,fun y hy=>hB.lt y (by have:=hsub y; omega),hNc0⟩
 have hobc2:y03 w Nc lcH H Fr0:=y0q H Fr0 (fun _ _=>rfl) hNNc (fun _ _ _=>rfl) hobc
 have hrefs: ∀a∈as ++ as1,a.ref inR=false:=fun a ha=>by
  rcases List.mem_append.1 ha with ha | ha
  ·exact a0v hρ hl a ha
  ·exact a0q a (href1 a ha)
 have hrepall:x07 w Nc lcH (as ++ as1) ((os ++ os1).map (Act.mk tmps ds).eval) Fg:=by
  rw[List.map_append]
  have:=j0p hrep (e05 (lc':=lcH) hNNc href1 hrep1)
  rwa [v0c] at this
 refine (h w Nc lcH _ FrT Fg Fr0 hBc (fun y=>by have:=hFT y; omega) hrefs hrepall hobc2).mono ?_
 rintro e w' ⟨g,r,H',N',lc',F',Fr',Fo',rfl,⟨on,hRest,hnosh,hK⟩,hB',hr,hob',hle',hnr,hFr'⟩
 have hO':y03 w' N' lcH H' Fo':=y0q H' Fo' (fun _ _=>rfl) (fun _ h=>h) (fun id o hm=>(hFr'.lcs id (hRid H' on hRest id o hm)).symm) hob'
 have hF'0: ∀y,1≤F' y→y<w.heap.size→1≤FrT y:=fun y hy hlt=>by
  rcases hFr'.fp y hy with h | h
  ·exact h
  ·omega
 have hF1z: ∀y,w.heap.size≤y→F1 y=0:=fun y hy=>by
  rcases Nat.eq_zero_or_pos (F1 y) with h | h
  ·exact h
  ·have:=hB1.lt y h; omega
 have hdis: ∀y,1≤F' y→F1 y=0:=fun y hy=>by
  rcases Nat.lt_or_ge y w.heap.size with hlt | hge
  ·have h1:=hF'0 y hy hlt
   have h2:=hF1m y; have h3:=hFm y; have h4:=hB.one y
   omega
  ·exact hF1z y hge
 have hkeep: ∀y,1≤F1 y∨N1 y→w'.heap[y]?=w.heap[y]?:=fun y hy=>by
  refine hFr'.keep y (hy.elim (hB1.lt y) fun h=>(hB1.nb y h).2) ?_
  rcases hy with hy | hy
  ·have h2:=hF1m y; have h3:=hFm y; have h4:=hB.one y
   omega
  ·exact (hNc0 y (hN1c y hy)).1
 have hkeepN: ∀y,N y→w'.heap[y]?=w.heap[y]?:=fun y hy=>hkeep y (.inr (hFr1.nn y hy))
 let N2:Nat→Prop:=fun y=>N1 y∨(b=false∧N' y∧(w.heap.size≤y∨1≤FrT y))
 have hN2: ∀y,N1 y→N2 y:=fun y hy=> .inl hy
 have hN'2:b=false→∀y,N' y→N2 y:=fun hb y hy=>by
  rcases hFr'.nr y hy with h | h | h
  ·rcases hNc y h with h | ⟨h,_⟩
   ·exact .inl h
   ·rw[hb] at h; cases h
  ·exact .inr ⟨hb,hy,.inr h⟩
  ·exact .inr ⟨hb,hy,.inl h⟩
 have hres:repA w' N2 lc r g Fr'∧y03 w' N2 lcH H' Fo':=by
  have hrl: ∀N3:Nat→Prop,(∀y,N' y→N3 y)→repA w' N3 lc r g Fr':=fun N3 h3=>
   w0f (p:=fun _ _=>true) r g Fr' (fun _ _=>rfl) h3 (fun _ _ h=>by cases h) hnr hr
  cases hb:b with
  | true=>exact⟨p0v (hnosh hb).1 (hrl N' fun _ h=>h),o0k (hnosh hb).2 hO'⟩
  | false=>exact⟨hrl N2 (hN'2 hb),y0q H' Fo' (fun _ _=>rfl) (hN'2 hb) (fun _ _ _=>rfl) hO'⟩
 have hFx1: ∀y,1≤Fx y→1≤F1 y:=fun y hy=>by
  obtain⟨_,_,hle3,_,_⟩:=hH1
  have:=hle3 y; omega
 have hroot2: ∃Fe:Fp,(∀y,Fe y≤Fo' y+Fx y)∧repO w' N2 (lc root) on.t on.e on.xs Fe:=
  hback w' N2 H' on Fo' hRest (fun y hy=>by
   rcases hy with hy | hy
   ·exact hkeep y (.inl (hFx1 y hy))
   ·exact hkeepN y hy) (fun y hy=>hN2 y (hFr1.nn y hy)) hres.2
 have hB2:Base w' N2 (add F1 F'):=by
  refine⟨fun y=>?_,fun y hy=>?_,fun y hy=>?_⟩
  ·have h1:=hB1.one y; have h2:=hB'.one y
   rcases Nat.eq_zero_or_pos (F' y) with h | h
   ·simp only[add]; omega
   ·have:=hdis y h; simp only[add]; omega
  ·simp only[add] at hy
   rcases Nat.eq_zero_or_pos (F' y) with h | h
   ·exact Nat.lt_of_lt_of_le (hB1.lt y (by omega)) hFr'.size
   ·exact hB'.lt y h
  ·rcases hy with hy | ⟨_,hy,hge⟩
   ·have h1:=hB1.nb y hy
    refine⟨?_,Nat.lt_of_lt_of_le h1.2 hFr'.size⟩
    rcases Nat.eq_zero_or_pos (F' y) with h | h
    ·simp only[add]; omega
    ·have:=hF'0 y h h1.2
     have:=(hNc0 y (hN1c y hy)).1
     omega
   ·have h1:=hB'.nb y hy
    refine⟨?_,h1.2⟩
    simp only[add]
    rw[h1.1]
    rcases hge with hge | hge
    ·rw[hF1z y hge]
    ·have h2:=hF1m y; have h3:=hFm y; have h4:=hB.one y
     omega
 refine⟨_,hK,by rw[y0i]; exact hdef,by rw[x06]; exact hn,N2,lc,add F1 F',hB2,?_,hFr.trans ?_⟩
 ·obtain⟨Ft3,Fo3,hle3,ht3,ho3⟩:=hH1
  obtain⟨Ft4,hle4,ht4⟩:=w0r (w':=w') (N':=N2) (lc':=lc) (p:=deep) tmps σ1.tm Ft3 (fun y hy=>hkeep y (hy.imp_left fun h=>by have:=hle3 y; omega) |>.trans rfl) hN2 (fun id st hst y hy=>by
   have:st=[]:=by simpa [deep] using hst
   subst this
   simpa only[resF] using hy) ht3
  have ho4:y03 w' N2 lc σ1.ob Fo3:=y0q σ1.ob Fo3 (fun y hy=>hkeep y (hy.imp_left fun h=>by have:=hle3 y; omega)) hN2 (fun _ _ _=>rfl) ho3
  obtain⟨Fe,hleE,hOE⟩:=hroot2
  obtain⟨Fo5,hle5,ho5⟩:=p0x (d:=root) (o:=on) hOE ho4
  have h2:Hold w' N2 lc { tm:=w0u deep σ1.tm,ob:=put σ1.ob root on } tmps (add F1 F') (add fz Fr'):=by
   refine⟨Ft4,Fo5,fun y=>?_,ht4,ho5⟩
   have h3:=hle3 y; have h4:=hle4 y; have h5:=hle5 y; have h6:=hle' y; have h7:=hleE y
   simp only[add,fz] at *
   omega
  exact y0j (ds:=ds) h2 hres.1 (fun k hk=>by rw[hn]; exact hd k hk)
 ·refine⟨hFr'.os,hFr'.tape,hFr'.output,hFr'.size,fun y hy h0=>hFr'.keep y hy (by have:=hsub y; omega),fun y hy=>?_,fun y hy=>hN2 y (hFr1.nn y hy),fun y hy=>?_,fun _ _=>rfl⟩
  ·simp only[add] at hy
   rcases Nat.eq_zero_or_pos (F' y) with h | h
   ·left
    have:=hF1m y; have:=hFm y; omega
   ·rcases hFr'.fp y h with h | h
    ·left; have:=hsub y; omega
    ·exact .inr h
  ·rcases hy with hy | ⟨_,hy,hge⟩
   ·rcases hFr1.nr y hy with h | h | h
    ·exact .inl h
    ·right; left; have:=hFm y; omega
    ·have:=(hB1.nb y hy).2; omega
   ·rcases hge with hge | hge
    ·exact .inr (.inr hge)
    ·right; left; have:=hsub y; omega
theorem b0l {o:Oper} {f:Nat} {fn:Func} {c:Call} {xs:List X} {os:List Operand} {K:St→Prop} {w0:World} {F0:Fp} {N0:Nat→Prop} {lc0:Loc} {n:Nat} {Q:Exit→Act→World→Prop}
 (ho:o.op = .call c) (hc:c.callee = .value (.func f)) (hargs:c.args=os.toArray) (hf:P.funcs[f]?=some fn) (hname:(fn.name == "runtime.NumGoroutine")=false) (hbody:fn.body.isNone=false) (hx:XL xs os) (hd: ∀k,o.dst=some k→k<n)
 (hdef:ds=[]) (hn:tmps.size=n) (hB:Base w N F) (hFr:Fr w0 F0 N0 lc0 w F N lc) {Fr0 Fx Ft Fre:Fp} {H:List (Nat×Obj)} {Rest:List (Nat×Obj)→Obj→Prop} {b:Bool} {as:List A}
 (hρ:n0b w lc lcH root ρ) (htm:x0u w N lc tmps σ.tm Ft) (hrest:y03 w N lc (del σ.ob root) Fre) (hleF: ∀y,Fr0 y+Fx y+Ft y+Fre y≤F y) (hobc:y03 w N lcH H Fr0)
 (hRid: ∀H' on,Rest H' on→∀id o,(id,o)∈H'→1000≤id)
 (hback: ∀(w':World) (N':Nat→Prop) (H':List (Nat×Obj)) (on:Obj) (Fa:Fp),Rest H' on→(∀y,1≤Fx y∨N y→w'.heap[y]?=w.heap[y]?)→(∀y,N y→N' y)→y03 w' N' lcH H' Fa→
   ∃Fe:Fp,(∀y,Fe y≤Fa y+Fx y)∧repO w' N' (lc root) on.t on.e on.xs Fe)
 (hl:renX ρ root { σ with ob:=del σ.ob root } xs=some (b,as,σ1))
 (h:CallsA P f as H fun r H'=>∃on,Rest H' on∧(b=true→u0s r=true∧r06 H'=true)∧K (setT { tm:=w0u deep σ1.tm,ob:=put σ1.ob root on } o.dst r)) :
 o.wp P ⟨tmps,ds⟩ w (fun a' w'=>∃σ',K σ'∧SR w0 F0 N0 lc0 n σ' a' w') Q:=by
 refine g0e (os1:=[]) (as1:=[]) (Fg:=fz) ho hc (by rw[List.append_nil]; exact hargs) hf hname hbody hx hd hdef hn hB hFr (fun a ha=>by cases ha) ⟨rfl,rfl⟩ hρ htm hrest (fun y=>by have:=hleF y; simp only[fz]; omega) hobc hRid hback hl ?_
 rw[List.append_nil]
 exact h
end
end Go.Am
namespace Go.Am
def n08:Path→Path→Option Path
 | [],p=>some p
 | _ :: _,[]=>none
 | s :: st,q :: p=>if s=q then n08 st p else none
theorem k00: ∀{st p q:Path},n08 st p=some q→p=st ++ q
 | [],p,q,h=>by simp only[n08,Option.some.injEq] at h; simp[h]
 | _ :: _,[],_,h=>by simp[n08] at h
 | s :: st,r :: p,q,h=>by
   simp only[n08] at h
   split at h
   case isFalse=>cases h
   rename_i he
   subst he
   rw[k00 h]; rfl
def ren1 (st0:Path):Ren:=fun _ p=>match n08 st0 p with
 | some q=>some (1000,q)
 | none=>none
def j0m:List C→List (Nat×Path)
 | []=>[]
 | .vw _ _ id st _ _ :: r=>(id,st) :: j0m r
 | .pt _ id st _ _ :: r=>(id,st) :: j0m r
 | _ :: r=>j0m r
def p10:A→List (Nat×Path)
 | .one c=>j0m [c]
 | .agg cs=>j0m cs
 | .tup _=>[]
def q1l:Path→Option (Path×Nat×Nat×Nat)
 | []=>none
 | [s]=>some ([],s)
 | s :: r=>match q1l r with
   | some (p,x)=>some (s :: p,x)
   | none=>none
def renM (pre:Path) (e i:Nat):Nat→List Nat→Ren
 | _,[]=>fun _ _=>none
 | k,f :: fs=>fun id p=>if p=pre ++ [(e,i,f)] then some (1000+k,[]) else renM pre e i (k+1) fs id p
def fsOf:List (Nat×Path)→List Nat
 | []=>[]
 | (_,p) :: r=>match q1l p with
   | some (_,_,_,f)=>f :: fsOf r
   | none=>fsOf r
def h0j:Nat→List C→List Nat→Option (List Obj)
 | _,_,[]=>some []
 | _,[],_ :: _=>none
 | j,c :: cs,f :: fs=>if j=f then
    match c with
    | .ar true t e ys=>if t<1000000000 then match h0j (j+1) cs fs with
      | some os=>some (⟨t,e,ys⟩ :: os)
      | none=>none
      else none
    | _=>none
   else h0j (j+1) cs (f :: fs)
def l05:Nat→List C→List Nat→List Obj→List C
 | _,cs,[],_=>cs
 | _,[],_ :: _,_=>[]
 | j,c :: cs,f :: fs,os=>if j=f then
    match os with
    | o :: os=> .ar true o.t o.e o.xs :: l05 (j+1) cs fs os
    | []=>c :: cs
   else c :: l05 (j+1) cs (f :: fs) os
def same:List Obj→List Obj→Prop
 | [],[]=>True
 | o :: os,o' :: os'=>o'.t=o.t∧o'.e=o.e∧o'.xs.length=o.xs.length∧same os os'
 | _,_=>False
def hobs:Nat→List Obj→List (Nat×Obj)
 | _,[]=>[]
 | k,o :: os=>(1000+k,o) :: hobs (k+1) os
def w12 (P:Program) (d:Option Nat) (f:Nat) (K:St→Prop) (root:Nat) (st0:Path) (o o1:Obj) (b:Bool) (as:List A) (σ1:St):Prop:=
 CallsA P f as [(1000,o1)] fun r H'=>∃o',H'=[(1000,o')]∧o'.t=o1.t∧o'.e=o1.e∧(st0=[]∨o'.xs.length=o1.xs.length)∧(b=true→u0s r=true∧y0c o'.xs=true)∧
  K (setT { tm:=w0u deep σ1.tm,ob:=put σ1.ob root ⟨o.t,o.e,setA o.xs st0 o'.xs⟩ } d r)
def d0i (P:Program) (d:Option Nat) (f:Nat) (K:St→Prop) (root:Nat) (st0:Path) (o:Obj):Option Obj→Option (Bool×List A×St)→Prop
 | some o1,some (b,as,σ1)=>w12 P d f K root st0 o o1 b as σ1
 | _,_=>False
def i0a (P:Program) (d:Option Nat) (f:Nat) (xs:List X) (K:St→Prop) (σ:St) (root:Nat) (st0:Path):Option Obj→Prop
 | some o=>d0i P d f K root st0 o (getA o.t o.e o.xs st0) (renX (ren1 st0) root { σ with ob:=del σ.ob root } xs)
 | none=>False
def p1s (P:Program) (d:Option Nat) (f:Nat) (K:St→Prop) (root:Nat) (pre:Path) (i:Nat) (fs:List Nat) (o o1:Obj) (row:List C) (os:List Obj) (b:Bool) (as:List A) (σ1:St):Prop:=
 CallsA P f as (hobs 0 os) fun r H'=>∃os',H'=hobs 0 os'∧same os os'∧(b=true→u0s r=true∧r06 H'=true)∧
  K (setT { tm:=w0u deep σ1.tm,ob:=put σ1.ob root ⟨o.t,o.e,setA o.xs pre (o1.xs.set i (l05 0 row fs os'))⟩ } d r)
def d0a (P:Program) (d:Option Nat) (f:Nat) (K:St→Prop) (root:Nat) (pre:Path) (i:Nat) (fs:List Nat) (o o1:Obj) (row:List C):Option (List Obj)→Option (Bool×List A×St)→Prop
 | some os,some (b,as,σ1)=>p1s P d f K root pre i fs o o1 row os b as σ1
 | _,_=>False
def d09 (P:Program) (d:Option Nat) (f:Nat) (xs:List X) (K:St→Prop) (σ:St) (root:Nat) (pre:Path) (e i:Nat) (fs:List Nat) (o o1:Obj):Option (List C)→Prop
 | some row=>d0a P d f K root pre i fs o o1 row (h0j 0 row fs) (renX (renM pre e i 0 fs) root { σ with ob:=del σ.ob root } xs)
 | none=>False
def d08 (P:Program) (d:Option Nat) (f:Nat) (xs:List X) (K:St→Prop) (σ:St) (root:Nat) (pre:Path) (e i:Nat) (fs:List Nat) (o:Obj):Option Obj→Prop
 | some o1=>if o1.e=e then d09 P d f xs K σ root pre e i fs o o1 o1.xs[i]? else False
 | none=>False
def i08 (P:Program) (d:Option Nat) (f:Nat) (xs:List X) (K:St→Prop) (σ:St) (root:Nat) (fs:List Nat):Option (Path×Nat×Nat×Nat)→Option Obj→Prop
 | some (pre,e,i,_),some o=>d08 P d f xs K σ root pre e i fs o (getA o.t o.e o.xs pre)
 | _,_=>False
def d0h (P:Program) (d:Option Nat) (f:Nat) (xs:List X) (K:St→Prop) (σ:St):Option (List (Nat×Path))→Prop
 | some [(root,st0)]=>i0a P d f xs K σ root st0 (look σ.ob root)
 | some ((root,s) :: r2 :: rest)=>i08 P d f xs K σ root (fsOf ((root,s) :: r2 :: rest)) (q1l s) (look σ.ob root)
 | _=>False
def i09 (P:Program) (d:Option Nat) (f:Nat) (x:X) (xs:List X) (K:St→Prop) (σ:St):Prop:=
 d0h P d f xs K σ ((ev σ x).map p10)
section
variable {P:Program} {w:World} {N:Nat→Prop} {lc:Loc} {tmps:Array Value} {ds:List Deferred} {F G:Fp} {σ σ1:St} {root:Nat}
theorem CallsA.to {f:FuncId} {args:List A} {H:List (Nat×Obj)} {R R':A→List (Nat×Obj)→Prop} (h:CallsA P f args H R) (hr: ∀r H',R r H'→R' r H'):CallsA P f args H R':=h.mono hr
def lcR (l:Option (Nat×Nat)):Loc:=fun i=>if i=1000 then l else none
theorem t15 {st0:Path}:n0b w lc (lcR (resF w (lc root) st0)) root (ren1 st0):=by
 intro p id' q h
 simp only[ren1] at h
 split at h
 case h_2=>cases h
 rename_i q' hq
 simp only[Option.some.injEq,Prod.mk.injEq] at h
 obtain⟨rfl,rfl⟩:=h
 exact⟨Nat.le_refl _,by rw[k00 hq,v05]; simp[lcR]⟩
theorem w11 {o:Oper} {f:Nat} {fn:Func} {c:Call} {xs:List X} {os:List Operand} {K:St→Prop} {w0:World} {F0:Fp} {N0:Nat→Prop} {lc0:Loc} {n:Nat} {a:Act} {Q:Exit→Act→World→Prop} {st0:Path}
 (ho:o.op = .call c) (hc:c.callee = .value (.func f)) (hargs:c.args=os.toArray) (hf:P.funcs[f]?=some fn) (hname:(fn.name == "runtime.NumGoroutine")=false) (hbody:fn.body.isNone=false) (hx:XL xs os) (hd: ∀k,o.dst=some k→k<n)
 (h:i0a P o.dst f xs K σ root st0 (look σ.ob root)) (hs:SR w0 F0 N0 lc0 n σ a w):o.wp P a w (fun a' w'=>∃σ',K σ'∧SR w0 F0 N0 lc0 n σ' a' w') Q:=by
 obtain⟨hdef,hn,N,lc,F,hB,hh,hFr⟩:=hs
 obtain⟨tmps,ds⟩:=a
 simp only at hdef hn hh
 cases hob:look σ.ob root with
 | none=>rw[hob] at h; exact h.elim
 | some ob=>
 rw[hob] at h
 simp only[i0a] at h
 cases hga:getA ob.t ob.e ob.xs st0 with
 | none=>rw[hga] at h; exact h.elim
 | some o1=>
 rw[hga] at h
 cases hl:renX (ren1 st0) root { σ with ob:=del σ.ob root } xs with
 | none=>rw[hl] at h; exact h.elim
 | some rx=>
 obtain⟨b,as,σ1⟩:=rx
 rw[hl] at h
 simp only[d0i,w12] at h
 obtain⟨Ft,Fo,hle,htm,hobs⟩:=hh
 obtain⟨FrR,Fre,hle2,hOR,hrest⟩:=y0d σ.ob Fo root ob hob hobs
 obtain⟨l',Fr0,Fx,hl',hO,rfl,hback⟩:=v0v st0 hOR hga
 subst hl'
 refine b0l (Rest:=fun H' on=>∃o',H'=[(1000,o')]∧o'.t=o1.t∧o'.e=o1.e∧(st0=[]∨o'.xs.length=o1.xs.length)∧on=⟨ob.t,ob.e,setA ob.xs st0 o'.xs⟩) ho hc hargs hf hname hbody hx hd hdef hn hB hFr t15 htm hrest
  (fun y=>by have:=hle y; have:=hle2 y; simp only[fz,add] at *; omega) (Fr0:=Fr0) (Fx:=Fx) (H:=[(1000,o1)]) ?_ ?_ ?_ hl (h.to ?_)
 ·simp only[y03]
  exact⟨Fr0,fz,(z0g _).symm,by simpa [lcR] using hO,rfl⟩
 ·rintro H' on ⟨o',rfl,_⟩ id o hm
  simp only[List.mem_singleton,Prod.mk.injEq] at hm
  omega
 ·rintro w' N' H' on Fa ⟨o',rfl,hot,hoe,holen,rfl⟩ hk hN hO'
  simp only[y03,lcR,if_true] at hO'
  obtain⟨Fa',Fb,rfl,hO',rfl⟩:=hO'
  rw[hot,hoe] at hO'
  rcases holen with rfl | hlen
  ·simp only[getA,Option.some.injEq] at hga
   subst hga
   exact⟨Fa',fun y=>by simp only[add]; omega,by simpa only[setA,resF] using hO'⟩
  ·exact⟨add Fa' Fx,fun y=>by simp only[add,fz]; omega,hback w' N' o'.xs Fa' hlen hk hN hO'⟩
 ·rintro r H' ⟨o',rfl,h1,h2,h3,h4,h5⟩
  exact⟨_,⟨o',rfl,h1,h2,h3,rfl⟩,fun hb=>by simpa [r06] using h4 hb,h5⟩
def hdrL:Value→Option (Nat×Nat)
 | .slice (some ⟨b2,0,none⟩) _ c2=>if c2=0 then none else some (b2,c2)
 | .pointer (some ⟨b2,0,none⟩)=>some (b2,1)
 | _=>none
theorem v1x (a:Option Addr):hdrL (.slice a 0 0)=none:=by
 unfold hdrL
 split
 ·rename_i h
  injection h with _ _ h
  rw[← h]; rfl
 ·rename_i h; cases h
 ·rfl
def y1w (w:World) (N:Nat→Prop):List (Option (Nat×Nat))→List Obj→Fp→Prop
 | [],[],F=>F=fz
 | l :: ls,o :: os,F=>∃F1 F2,F=add F1 F2∧repO w N l o.t o.e o.xs F1∧y1w w N ls os F2
 | _,_,_=>False
theorem c0i: ∀{cs:List C} {vs:List Value} {F:Fp} {j:Nat} {fs:List Nat} {os:List Obj},z0d w N cs vs F→h0j j cs fs=some os→
 ∃(ls:List (Option (Nat×Nat))) (Fs Fx:Fp),F=add Fs Fx∧y1w w N ls os Fs∧(∀(k f:Nat),fs[k]?=some f→∃v,j≤f∧vs[f - j]?=some v∧ls[k]?=some (hdrL v))∧
  ∀(w':World) (N':Nat→Prop) (os':List Obj) (Fs':Fp),same os os'→(∀b,1≤Fx b∨N b→w'.heap[b]?=w.heap[b]?)→(∀b,N b→N' b)→y1w w' N' ls os' Fs'→z0d w' N' (l05 j cs fs os') vs (add Fs' Fx)
 | cs,vs,F,j,[],os,h,hp=>by
   simp only[h0j,Option.some.injEq] at hp
   subst hp
   refine⟨[],fz,F,(v0c F).symm,rfl,fun k f hk=>by simp at hk,fun w' N' os' Fs' hs hk hN hl=>?_⟩
   cases os' with
   | cons=>exact hs.elim
   | nil=>
     have:Fs'=fz:=hl
     subst this
     rw[v0c]
     simp only[l05]
     exact y0n cs vs F hk hN h
 | [],vs,F,j,f :: fs,os,h,hp=>by simp[h0j] at hp
 | c :: cs,vs,F,j,f :: fs,os,h,hp=>by
   simp only[z0d] at h
   obtain⟨v,vs',F1,F2,rfl,rfl,h1,h2⟩:=h
   simp only[h0j] at hp
   split at hp
   ·rename_i hj
    subst hj
    split at hp
    case h_2=>cases hp
    rename_i t e ys
    split at hp
    case isFalse=>cases hp
    rename_i ht9
    split at hp
    case h_2=>cases hp
    rename_i os2 hp2
    simp only[Option.some.injEq] at hp
    subst hp
    obtain⟨ls,Fs,Fx,rfl,hls,hloc,hback⟩:=c0i h2 hp2
    have hnest:repO w N (hdrL v) t e ys F1∧(∀(w':World) (N':Nat→Prop) (zs:List (List C)) (G:Fp),zs.length=ys.length→repO w' N' (hdrL v) t e zs G→repC w' N' (.ar true t e zs) v G):=by
     rcases t0o h1 with⟨rfl,a2,rfl⟩ | ⟨b2,cap2,cur2,G',hp2,rfl,hb2,hl2,hc2,hs2,hr2,rfl⟩
     ·refine⟨.inl ⟨v1x a2,rfl⟩,fun w' N' zs G hz h=>?_⟩
      have hz0:zs=[]:=List.eq_nil_of_length_eq_zero (by simpa using hz)
      subst hz0
      simp only[repC]; exact .inl ⟨by trivial,a2,rfl⟩
     ·have hhd:hdrL (.slice (some ⟨b2,0,none⟩) ys.length cap2)=some (b2,cap2):=by simp only[hdrL]; rw[if_neg (by omega)]
      rw[hhd]
      refine⟨.inr ⟨b2,cap2,cur2,G',rfl,by rw[p04 ht9]; exact hb2,hl2,i0i ht9 hc2,hs2,hr2,rfl⟩,fun w' N' zs G hz h=>?_⟩
      rcases h with⟨h,_⟩ | ⟨b3,cap3,cur3,G3,h,hb3,hl3,hc3,hs3,hr3,rfl⟩
      ·cases h
      ·injection h with h; injection h with h1 h2; subst h1; subst h2
       simp only[repC]
       rw[p04 ht9] at hb3
       exact .inr ⟨b2,cap2,cur3,G3,by rw[hz],hb3,hl3,hc3.1,hs3,hr3,rfl⟩
    refine⟨hdrL v :: ls,add F1 Fs,Fx,by rw[add_assoc],⟨F1,Fs,rfl,hnest.1,hls⟩,fun k f hk=>?_,fun w' N' os' Fs' hs hk hN hl=>?_⟩
    ·cases k with
     | zero=>
       simp only[List.getElem?_cons_zero,Option.some.injEq] at hk
       subst hk
       exact⟨v,Nat.le_refl _,by simp,by simp⟩
     | succ k=>
       obtain⟨v2,h3,h4,h5⟩:=hloc k f (by simpa using hk)
       refine⟨v2,by omega,?_,by simpa using h5⟩
       rw[show f - j=f - (j+1)+1 from by omega,List.getElem?_cons_succ]
       exact h4
    ·cases os' with
     | nil=>exact hs.elim
     | cons o' os'=>
       obtain⟨ht,he,hlen,hs2⟩:=hs
       obtain⟨G1,G2,rfl,hO,hl2⟩:=hl
       have h6:=hback w' N' os' G2 hs2 hk hN hl2
       simp only[l05,if_true,z0d]
       rw[ht,he] at hO ⊢
       exact⟨v,vs',G1,add G2 Fx,rfl,add_assoc ..,hnest.2 w' N' o'.xs G1 hlen hO,h6⟩
   ·rename_i hj
    obtain⟨ls,Fs,Fx,rfl,hls,hloc,hback⟩:=c0i h2 hp
    refine⟨ls,Fs,add F1 Fx,by funext x; simp only[add]; omega,hls,fun k f' hk=>?_,fun w' N' os' Fs' hs hk hN hl=>?_⟩
    ·obtain⟨v2,h3,h4,h5⟩:=hloc k f' hk
     refine⟨v2,by omega,?_,h5⟩
     rw[show f' - j=f' - (j+1)+1 from by omega,List.getElem?_cons_succ]
     exact h4
    ·have h6:=hback w' N' os' Fs' hs (fun b hb=>hk b (hb.imp_left fun h=>by simp only[add]; omega)) hN hl
     simp only[l05,if_neg hj,z0d]
     exact⟨v,vs',F1,add Fs' Fx,rfl,by funext x; simp only[add]; omega,w05 c v F1 (fun b hb=>hk b (hb.imp_left fun h=>by simp only[add]; omega)) hN h1,h6⟩
theorem a0x {lcH:Loc}: ∀{ls:List (Option (Nat×Nat))} {os:List Obj} {F:Fp} {k0:Nat},y1w w N ls os F→(∀(k:Nat) (l:Option (Nat×Nat)),ls[k]?=some l→lcH (1000+(k0+k))=l)→y03 w N lcH (hobs k0 os) F
 | [],[],F,_,h,_=>h
 | [],_ :: _,_,_,h,_=>h.elim
 | _ :: _,[],_,_,h,_=>h.elim
 | l :: ls,o :: os,F,k0,⟨F1,F2,hF,h1,h2⟩,hk=>by
   simp only[hobs,y03]
   refine⟨F1,F2,hF,?_,a0x h2 fun k l' hl=>?_⟩
   ·have:=hk 0 l rfl
    rw[Nat.add_zero] at this
    rw[this]; exact h1
   ·have:=hk (k+1) l' (by simpa using hl)
    rwa [show k0+(k+1)=k0+1+k from by omega] at this
theorem a0a {lcH:Loc}: ∀{ls:List (Option (Nat×Nat))} {os:List Obj} {F:Fp} {k0:Nat},ls.length=os.length→y03 w N lcH (hobs k0 os) F→(∀(k:Nat) (l:Option (Nat×Nat)),ls[k]?=some l→lcH (1000+(k0+k))=l)→y1w w N ls os F
 | [],[],F,_,_,h,_=>h
 | [],_ :: _,_,_,hl,_,_=>by simp at hl
 | _ :: _,[],_,_,hl,_,_=>by simp at hl
 | l :: ls,o :: os,F,k0,hlen,h,hk=>by
   simp only[hobs,y03] at h
   obtain⟨F1,F2,hF,h1,h2⟩:=h
   refine⟨F1,F2,hF,?_,a0a (by simpa using hlen) h2 fun k l' hl=>?_⟩
   ·have:=hk 0 l rfl
    rw[Nat.add_zero] at this
    rw[← this]; exact h1
   ·have:=hk (k+1) l' (by simpa using hl)
    rwa [show k0+(k+1)=k0+1+k from by omega] at this
theorem e06: ∀{ls:List (Option (Nat×Nat))} {os:List Obj} {F:Fp},y1w w N ls os F→ls.length=os.length
 | [],[],_,_=>rfl
 | [],_ :: _,_,h=>h.elim
 | _ :: _,[],_,h=>h.elim
 | _ :: ls,_ :: os,_,⟨_,_,_,_,h⟩=>by simp[e06 h]
theorem z13: ∀{os os':List Obj},same os os'→os'.length=os.length
 | [],[],_=>rfl
 | [],_ :: _,h=>h.elim
 | _ :: _,[],h=>h.elim
 | _ :: os,_ :: os',h=>by simp[z13 h.2.2.2]
theorem c06: ∀{os:List Obj} {k id:Nat} {o:Obj},(id,o)∈hobs k os→1000≤id
 | [],_,_,_,h=>by simp[hobs] at h
 | _ :: os,k,id,o,h=>by
   simp only[hobs,List.mem_cons,Prod.mk.injEq] at h
   rcases h with⟨rfl,_⟩ | h
   ·omega
   ·exact c06 h
theorem t19 {pre:Path} {e i:Nat}: ∀{fs:List Nat} {k0:Nat} {id id':Nat} {p q:Path},renM pre e i k0 fs id p=some (id',q)→∃k f,fs[k]?=some f∧p=pre ++ [(e,i,f)]∧id'=1000+(k0+k)∧q=[]
 | [],_,_,_,_,_,h=>by simp[renM] at h
 | f :: fs,k0,id,id',p,q,h=>by
   simp only[renM] at h
   split at h
   ·rename_i hp
    simp only[Option.some.injEq,Prod.mk.injEq] at h
    obtain⟨rfl,rfl⟩:=h
    exact⟨0,f,by simp,hp,by simp,rfl⟩
   ·obtain⟨k,f',h1,h2,h3,h4⟩:=t19 h
    exact⟨k+1,f',by simpa using h1,h2,by omega,h4⟩
theorem r18 {o:Oper} {f:Nat} {fn:Func} {c:Call} {xs:List X} {os:List Operand} {K:St→Prop} {w0:World} {F0:Fp} {N0:Nat→Prop} {lc0:Loc} {n:Nat} {a:Act} {Q:Exit→Act→World→Prop} {fs:List Nat} {lf:Option (Path×Nat×Nat×Nat)}
 (ho:o.op = .call c) (hc:c.callee = .value (.func f)) (hargs:c.args=os.toArray) (hf:P.funcs[f]?=some fn) (hname:(fn.name == "runtime.NumGoroutine")=false) (hbody:fn.body.isNone=false) (hx:XL xs os) (hd: ∀k,o.dst=some k→k<n)
 (h:i08 P o.dst f xs K σ root fs lf (look σ.ob root)) (hs:SR w0 F0 N0 lc0 n σ a w):o.wp P a w (fun a' w'=>∃σ',K σ'∧SR w0 F0 N0 lc0 n σ' a' w') Q:=by
 obtain⟨hdef,hn,N,lc,F,hB,hh,hFr⟩:=hs
 obtain⟨tmps,ds⟩:=a
 simp only at hdef hn hh
 cases lf with
 | none=>cases look σ.ob root <;> exact h.elim
 | some x=>
 obtain⟨pre,e,i,f0⟩:=x
 cases hob:look σ.ob root with
 | none=>rw[hob] at h; exact h.elim
 | some ob=>
 rw[hob] at h
 simp only[i08] at h
 cases hga:getA ob.t ob.e ob.xs pre with
 | none=>rw[hga] at h; exact h.elim
 | some o1=>
 rw[hga] at h
 simp only[d08] at h
 split at h
 case isFalse=>exact h.elim
 rename_i hoe
 cases hrow:o1.xs[i]? with
 | none=>rw[hrow] at h; exact h.elim
 | some row=>
 rw[hrow] at h
 simp only[d09] at h
 cases hpl:h0j 0 row fs with
 | none=>rw[hpl] at h; exact h.elim
 | some obs=>
 rw[hpl] at h
 cases hl:renX (renM pre e i 0 fs) root { σ with ob:=del σ.ob root } xs with
 | none=>rw[hl] at h; exact h.elim
 | some rx=>
 obtain⟨b,as,σ1⟩:=rx
 rw[hl] at h
 simp only[d0a,p1s] at h
 obtain⟨Ft,Fo,hle,htm,hobsr⟩:=hh
 obtain⟨FrR,Fre,hle2,hOR,hrest⟩:=y0d σ.ob Fo root ob hob hobsr
 obtain⟨l',Fr1,Fx1,hl',hO,rfl,hback1⟩:=v0v pre hOR hga
 subst hl'
 rcases hO with⟨_,hnil⟩ | ⟨blk,cap,cur,F',hlb,hb,hlen,hcap,hcs,hrows,rfl⟩
 ·rw[hnil] at hrow; simp at hrow
 obtain⟨Ga,Gb,rfl,hre,hble,hrr,hset⟩:=p00 hrows hrow
 obtain⟨ls,Fs,Fy,rfl,hls,hloc,hback2⟩:=c0i hrr hpl
 let lcH:Loc:=fun id=>ls.getD (id - 1000) none
 have hlcH: ∀(k:Nat) (l:Option (Nat×Nat)),ls[k]?=some l→lcH (1000+(0+k))=l:=fun k l hk=>by
  show ls.getD (1000+(0+k) - 1000) none=l
  rw[show 1000+(0+k) - 1000=k from by omega,List.getD_eq_getElem?_getD,hk]; rfl
 have hρ:n0b w lc lcH root (renM pre e i 0 fs):=by
  intro p id' q hr
  obtain⟨k,f1,hk,rfl,rfl,rfl⟩:=t19 hr
  refine⟨by omega,?_⟩
  obtain⟨v,_,hv,hlk⟩:=hloc k f1 hk
  rw[Nat.sub_zero] at hv
  have hcell:w.cell? ⟨blk,i*e+f1,none⟩=some v:=by
   rw[y07 hb]
   have h1:((cur.toList.take (o1.xs.length*o1.e)).drop (i*o1.e))[f1]?=some v:=by
    rw[List.getElem?_take] at hv
    split at hv
    ·exact hv
    ·cases hv
   rw[List.getElem?_drop] at h1
   rw[← hoe]
   exact w0c h1
  rw[v05,hlb]
  have:resF w (some (blk,cap)) [(e,i,f1)]=hdrL v:=by
   simp only[resF,hcell]
   cases v with
   | slice ad len c2=>
     cases ad with
     | none=>rfl
     | some ad=>
       obtain⟨b2,off,fld⟩:=ad
       cases off <;> cases fld <;> rfl
   | pointer ad=>
     cases ad with
     | none=>rfl
     | some ad=>
       obtain⟨b2,off,fld⟩:=ad
       cases off <;> cases fld <;> rfl
   | _=>rfl
  rw[this]
  simp only[resF]
  exact (hlcH k _ hlk).symm
 refine b0l (Rest:=fun H' on=>∃os',H'=hobs 0 os'∧same obs os'∧on=⟨ob.t,ob.e,setA ob.xs pre (o1.xs.set i (l05 0 row fs os'))⟩) ho hc hargs hf hname hbody hx hd hdef hn hB hFr hρ htm hrest
  (fun y=>?_) (Fr0:=Fs) (Fx:=add (add (Am.one blk) (add Fy Gb)) Fx1) (H:=Go.Am.hobs 0 obs) (a0x hls hlcH) ?_ ?_ hl (h.to ?_)
 ·have:=hle y; have:=hle2 y; simp only[fz,add] at *; omega
 ·rintro H' on ⟨os',rfl,_⟩ id o hm
  exact c06 hm
 ·rintro w' N' H' on Fa ⟨os',rfl,hsm,rfl⟩ hk hN hO'
  have h1:=a0a (by rw[e06 hls,z13 hsm]) hO' hlcH
  have h2:=hback2 w' N' os' Fa hsm (fun y hy=>hk y (hy.imp_left fun h=>by simp only[add]; omega)) hN h1
  have hplen:(l05 0 row fs os').length=o1.e:=by
   have h4:=y01 h2
   have h5:=y01 hrr
   rw[← h4,h5,hre]
  have h3:=hset w' N' _ _ _ hplen (fun y hy=>hk y (hy.imp_left fun h=>by simp only[add]; omega)) hN h2
  have hvs:(cur.toList.take (o1.xs.length*o1.e)).take (i*o1.e) ++ ((cur.toList.take (o1.xs.length*o1.e)).drop (i*o1.e)).take o1.e ++ (cur.toList.take (o1.xs.length*o1.e)).drop (i*o1.e+o1.e)=cur.toList.take (o1.xs.length*o1.e):=by
   rw[List.append_assoc,← List.drop_drop,List.take_append_drop,List.take_append_drop]
  rw[hvs] at h3
  refine⟨_,fun y=>?_,hback1 w' N' (o1.xs.set i (l05 0 row fs os')) (add (Am.one blk) (add (add Fa Fy) Gb)) (by simp) (fun y hy=>hk y (hy.imp_left fun h=>by simp only[add]; omega)) hN ?_⟩
  ·simp only[add]; omega
  ·rw[hlb]
   refine .inr ⟨blk,cap,cur,_,rfl,(hk blk (.inl (by simp[add,Am.one]; omega))).trans hb,by simpa using hlen,hcap,hcs,by rw[List.length_set]; exact h3,rfl⟩
 ·rintro r H' ⟨os',rfl,h1,h2,h3⟩
  exact⟨_,⟨os',rfl,h1,rfl⟩,h2,h3⟩
theorem i0f {o:Oper} {f:Nat} {fn:Func} {c:Call} {x:X} {xs:List X} {os:List Operand} {K:St→Prop} {w0:World} {F0:Fp} {N0:Nat→Prop} {lc0:Loc} {n:Nat} {a:Act} {Q:Exit→Act→World→Prop}
 (ho:o.op = .call c) (hc:c.callee = .value (.func f)) (hargs:c.args=os.toArray) (hf:P.funcs[f]?=some fn) (hname:(fn.name == "runtime.NumGoroutine")=false) (hbody:fn.body.isNone=false) (hx:XL xs os) (hd: ∀k,o.dst=some k→k<n)
 (h:i09 P o.dst f x xs K σ) (hs:SR w0 F0 N0 lc0 n σ a w):o.wp P a w (fun a' w'=>∃σ',K σ'∧SR w0 F0 N0 lc0 n σ' a' w') Q:=by
 unfold i09 d0h at h
 split at h
 ·exact w11 ho hc hargs hf hname hbody hx hd h hs
 ·exact r18 ho hc hargs hf hname hbody hx hd h hs
 ·exact h.elim
end
end Go.Am
namespace Go.Am
def m0e (σ:St):List C→Option (List C×St)
 | []=>some ([],σ)
 | c :: cs=>match p0f σ (.one c) with
   | some (.one c',σ1)=>match m0e σ1 cs with
     | some (cs',σ2)=>some (c' :: cs',σ2)
     | none=>none
   | _=>none
def r1i (σ:St) (x:X):Option (A×St):=
 match v06 σ x with
 | some (.one c,σ1)=>p0f σ1 (.one c)
 | some (.agg cs,σ1)=>match m0e σ1 cs with
   | some (cs',σ2)=>some (.agg cs',σ2)
   | none=>none
 | _=>none
def p0g (σ:St):List X→Option (List A×St)
 | []=>some ([],σ)
 | x :: xs=>match r1i σ x with
   | some (a,σ1)=>match p0g σ1 xs with
     | some (as,σ2)=>some (a :: as,σ2)
     | none=>none
   | none=>none
def y1u:List A→Bool
 | []=>false
 | a :: as=>a.ref (fun _ _=>true) || y1u as
def x1z (P:Program) (d:Option Nat) (f:Nat) (K:St→Prop) (b:Bool) (as:List A) (σ1:St):Prop:=
 CallsA P f as [] fun r H'=>H'=[]∧(b=true→u0s r=true)∧K (setT { tm:=w0u deep σ1.tm,ob:=σ1.ob } d r)
def d0g (P:Program) (d:Option Nat) (f:Nat) (K:St→Prop) (as0:List A):Option (Bool×List A×St)→Prop
 | some (b,as,σ1)=>y1u as0=false∧x1z P d f K b (as0 ++ as) σ1
 | none=>False
def d0f (P:Program) (d:Option Nat) (f:Nat) (xs:List X) (K:St→Prop):Option (List A×St)→Prop
 | some (as0,σ0)=>d0g P d f K as0 (u0r σ0 xs)
 | none=>False
def x1x (P:Program) (d:Option Nat) (f k:Nat) (xs:List X) (K:St→Prop) (σ:St):Prop:=d0f P d f (xs.drop k) K (p0g σ (xs.take k))
section
variable {P:Program} {w:World} {N:Nat→Prop} {lc lcH:Loc} {tmps:Array Value} {ds:List Deferred} {F G:Fp} {σ σ1:St}
theorem l0b: ∀{as:List A},y1u as=false→∀a∈as,a.ref (fun _ _=>true)=false
 | [],_,a,ha=>by cases ha
 | x :: as,h,a,ha=>by
   simp only[y1u,Bool.or_eq_false_iff] at h
   rcases List.mem_cons.1 ha with rfl | ha
   ·exact h.1
   ·exact l0b h.2 a ha
theorem l0e {N':Nat→Prop} {lc':Loc} (hN: ∀b,N b→N' b): ∀{as:List A} {gs:List Value} {F:Fp},(∀a∈as,a.ref (fun _ _=>true)=false)→x07 w N lc as gs F→x07 w N' lc' as gs F
 | [],_,_,_,h=>h
 | a :: as,gs,F,hr,⟨g,gs',F1,F2,hg,hF,h1,h2⟩=>
   ⟨g,gs',F1,F2,hg,hF,w0f (p:=fun _ _=>true) a g F1 (fun _ _=>rfl) hN (fun _ _ h=>by cases h) (hr a (List.mem_cons_self ..)) h1,l0e hN (fun a ha=>hr a (List.mem_cons_of_mem _ ha)) h2⟩
theorem t0n: ∀{as as':List A} {gs gs':List Value} {F F':Fp},x07 w N lc as gs F→x07 w N lc as' gs' F'→x07 w N lc (as ++ as') (gs ++ gs') (add F F')
 | [],_,_,_,_,_,⟨hg,hF⟩,h'=>by subst hg; subst hF; rw[v0c]; exact h'
 | _ :: _,_,_,_,_,_,⟨g,gs1,F1,F2,hg,hF,h1,h2⟩,h'=>by
   subst hg; subst hF
   exact⟨g,_,F1,_,rfl,by rw[add_assoc],h1,t0n h2 h'⟩
theorem g0q {c:C} {a':A} {v:Value} {G0:Fp} (h:p0f σ (.one c)=some (a',σ1)) (ha:repT w N lc c v G0) (hh:Hold w N lc σ tmps F (add G G0)) :
 ∃G1,repA w N lc a' v G1∧Hold w N lc σ1 tmps F (add G G1):=by
 by_cases haff:c.aff=true
 ·have:p0f σ (.one c)=some (.one c,σ):=by
   cases c <;> simp[C.aff] at haff <;> rfl
  rw[this] at h
  simp only[Option.some.injEq,Prod.mk.injEq] at h
  obtain⟨rfl,rfl⟩:=h
  exact⟨G0,ha,hh⟩
 ·have haff:c.aff=false:=by simpa using haff
  have:=s0p haff ha
  subst this
  rw[z0g] at hh
  exact n0m (a:= .one c) h haff ha hh
theorem m0f: ∀{cs cs':List C} {vs:List Value} {G0 G:Fp} {σ σ1:St},m0e σ cs=some (cs',σ1)→z0m w N lc cs vs G0→Hold w N lc σ tmps F (add G G0)→∃G1,z0m w N lc cs' vs G1∧Hold w N lc σ1 tmps F (add G G1)
 | [],cs',vs,G0,G,σ,σ1,h,hr,hh=>by
   simp only[m0e,Option.some.injEq,Prod.mk.injEq] at h
   obtain⟨rfl,rfl⟩:=h
   exact⟨G0,hr,hh⟩
 | c :: cs,cs',vs,G0,G,σ,σ1,h,hr,hh=>by
   obtain⟨v,vs',F1,F2,rfl,rfl,h1,h2⟩:=hr
   simp only[m0e] at h
   split at h
   case h_2=>cases h
   rename_i c' σ2 hc
   split at h
   case h_2=>cases h
   rename_i cs2 σ3 hcs
   simp only[Option.some.injEq,Prod.mk.injEq] at h
   obtain⟨rfl,rfl⟩:=h
   have hh1:Hold w N lc σ tmps F (add (add G F2) F1):=by
    have:add (add G F2) F1=add G (add F1 F2):=by funext x; simp only[add]; omega
    rw[this]; exact hh
   obtain⟨Ga,ha,hHa⟩:=g0q hc h1 hh1
   have hh2:Hold w N lc σ2 tmps F (add (add G Ga) F2):=by
    have:add (add G Ga) F2=add (add G F2) Ga:=by funext x; simp only[add]; omega
    rw[this]; exact hHa
   obtain⟨Gb,hb,hHb⟩:=m0f hcs h2 hh2
   refine⟨add Ga Gb,⟨v,vs',Ga,Gb,rfl,rfl,ha,hb⟩,?_⟩
   have:add G (add Ga Gb)=add (add G Ga) Gb:=by funext x; simp only[add]; omega
   rw[this]; exact hHb
theorem r1j {x:X} {o:Operand} {a:A} (hx:XOf x o) (h:r1i σ x=some (a,σ1)) (hh:Hold w N lc σ tmps F G): ∃G1,repA w N lc a ((Act.mk tmps ds).eval o) G1∧Hold w N lc σ1 tmps F (add G G1):=by
 unfold r1i at h
 split at h
 ·rename_i c σ2 ht
  obtain⟨G1,hr,hH,_,_⟩:=y0w (ds:=ds) hx ht hh
  exact g0q h hr hH
 ·rename_i cs σ2 ht
  obtain⟨G1,⟨vs,hv,hr⟩,hH,_,_⟩:=y0w (ds:=ds) hx ht hh
  split at h
  case h_2=>cases h
  rename_i cs' σ3 hg
  simp only[Option.some.injEq,Prod.mk.injEq] at h
  obtain⟨rfl,rfl⟩:=h
  obtain⟨G2,h2,hH2⟩:=m0f hg hr hH
  exact⟨G2,⟨vs,hv,h2⟩,hH2⟩
 ·cases h
theorem m0g: ∀{xs:List X} {os:List Operand} {as:List A} {σ σ1:St} {G:Fp},p0g σ xs=some (as,σ1)→XL xs os→Hold w N lc σ tmps F G→∃Gg,x07 w N lc as (os.map (Act.mk tmps ds).eval) Gg∧Hold w N lc σ1 tmps F (add G Gg)
 | [],os,as,σ,σ1,G,h,hx,hh=>by
   cases os with
   | cons=>exact hx.elim
   | nil=>
     simp only[p0g,Option.some.injEq,Prod.mk.injEq] at h
     obtain⟨rfl,rfl⟩:=h
     exact⟨fz,⟨rfl,rfl⟩,by rw[z0g]; exact hh⟩
 | x :: xs,os,as,σ,σ1,G,h,hx,hh=>by
   cases os with
   | nil=>exact hx.elim
   | cons o os=>
     simp only[p0g] at h
     split at h
     case h_2=>cases h
     rename_i a σ2 hg
     split at h
     case h_2=>cases h
     rename_i as2 σ3 hgs
     simp only[Option.some.injEq,Prod.mk.injEq] at h
     obtain⟨rfl,rfl⟩:=h
     obtain⟨G1,h1,hH1⟩:=r1j (ds:=ds) hx.1 hg hh
     obtain⟨G2,h2,hH2⟩:=m0g hgs hx.2 hH1
     exact⟨add G1 G2,⟨_,_,G1,G2,rfl,rfl,h1,h2⟩,by rw[← add_assoc]; exact hH2⟩
theorem d02: ∀{xs:List X} {os:List Operand} (k:Nat),XL xs os→XL (xs.take k) (os.take k)∧XL (xs.drop k) (os.drop k)
 | xs,os,0,h=>by simpa [XL] using h
 | [],[],k+1,_=>by simp[XL]
 | [],_ :: _,_+1,h=>h.elim
 | _ :: _,[],_+1,h=>h.elim
 | x :: xs,o :: os,k+1,h=>by
   obtain⟨h1,h2⟩:=d02 k h.2
   exact⟨⟨h.1,h1⟩,h2⟩
theorem x1y {o:Oper} {f:Nat} {fn:Func} {c:Call} {xs:List X} {os0 os:List Operand} {K:St→Prop} {w0:World} {F0:Fp} {N0:Nat→Prop} {lc0:Loc} {n:Nat} {Q:Exit→Act→World→Prop}
 (ho:o.op = .call c) (hc:c.callee = .value (.func f)) (hargs:c.args=(os0 ++ os).toArray) (hf:P.funcs[f]?=some fn) (hname:(fn.name == "runtime.NumGoroutine")=false) (hbody:fn.body.isNone=false) (hx:XL xs os) (hd: ∀k,o.dst=some k→k<n)
 (hdef:ds=[]) (hn:tmps.size=n) (hB:Base w N F) (hFr:Fr w0 F0 N0 lc0 w F N lc) {Fr0:Fp} {b:Bool} {as0 as:List A} (href0: ∀a∈as0,a.ref (fun _ _=>true)=false) (hrep0:x07 w N lc as0 (os0.map (Act.mk tmps ds).eval) Fr0)
 (hh:Hold w N lc σ tmps F Fr0) (hl:u0r σ xs=some (b,as,σ1))
 (h:CallsA P f (as0 ++ as) [] fun r H'=>H'=[]∧(b=true→u0s r=true)∧K (setT { tm:=w0u deep σ1.tm,ob:=σ1.ob } o.dst r)) :
 o.wp P ⟨tmps,ds⟩ w (fun a' w'=>∃σ',K σ'∧SR w0 F0 N0 lc0 n σ' a' w') Q:=by
 have hsub: ∀y,Fr0 y≤F y:=fun y=>by obtain⟨_,_,hle0,_,_⟩:=hh; have:=hle0 y; omega
 let Fm:Fp:=fun y=>F y - Fr0 y
 have hFm: ∀y,Fm y+Fr0 y=F y:=fun y=>by have:=hsub y; show F y - Fr0 y+Fr0 y=F y; omega
 have hBm:Base w N Fm:=⟨fun y=>by have:=hB.one y; have:=hFm y; omega,fun y hy=>hB.lt y (by have:=hFm y; omega),fun y hy=>⟨by have:=(hB.nb y hy).1; have:=hFm y; omega,(hB.nb y hy).2⟩⟩
 have hHm:Hold w N lc σ tmps Fm fz:=by
  obtain⟨Ft,Fo,hle0,ht0,ho0⟩:=hh
  exact⟨Ft,Fo,fun y=>by have:=hle0 y; have:=hFm y; simp only[fz]; omega,ht0,ho0⟩
 obtain⟨Gs,hH,k1,k2⟩:=p0m (ds:=ds) hl hx hHm
 have hrun:(execOp (Act.mk tmps ds).eval o).run P w = .ok (.enter f ((os0 ++ os).map (Act.mk tmps ds).eval).toArray) w:=by
  have hev:(Act.mk tmps ds).eval (.func f) = .func (.func f) #[] #[]:=rfl
  simp only[execOp,ho,resolve,hc,hargs,hev,Deferred.ofValue,Sem.run_bind,Sem.run_pure,Result.andThen_ok,invoke,callFunc,run_program,hf,hname,hbody,Bool.false_eq_true,if_false,List.map_toArray,Array.empty_append,Array.append_empty,Array.toList_empty,List.append_nil,List.nil_append]
 unfold Oper.wp
 rw[hrun,Oper.upon_enter]
 have hcall: ∃(N1:Nat→Prop) (F1:Fp) (Nc:Nat→Prop),Base w N1 F1∧Hold w N1 lc σ1 tmps F1 fz∧Fr w Fm N lc w F1 N1 lc∧(∀y,F1 y≤Fm y)∧(∀y,Nc y→Fr0 y=0∧y<w.heap.size)∧x07 w Nc lc as (os.map (Act.mk tmps ds).eval) fz∧
  (∀y,Nc y→N1 y∨(b=true∧1≤F1 y))∧(∀y,N1 y→Nc y)∧(∀y,N y→Nc y):=by
  cases b with
  | false=>
    obtain⟨h3,h4,h5⟩:=p0e hBm hH
    have hGs: ∀y,Gs y≤Fm y:=fun y=>by
     obtain⟨_,_,hle3,_,_⟩:=hH
     have:=hle3 y; simp only[add,fz] at this; omega
    refine⟨_,_,frzN N Gs,h3,h4,h5,fun y=>?_,fun y hy=>?_,k2 rfl _ (fun y hy=> .inr hy) (fun y hy=> .inl hy),fun y hy=> .inl hy,fun y hy=>hy,fun y hy=> .inl hy⟩
    ·unfold frzF; split <;> omega
    ·refine⟨?_,(h3.nb y hy).2⟩
     have h6:=hFm y
     rcases hy with hy | hy
     ·have:=(hB.nb y hy).1; omega
     ·have:=hGs y; have:=hB.one y; omega
  | true=>
    refine⟨N,Fm,v0r N Fm,hBm,?_,Fr.refl ..,fun _=>Nat.le_refl _,fun y hy=>?_,k1,fun y hy=>hy.imp id fun h=>⟨rfl,h⟩,fun y hy=> .inl hy,fun y hy=> .inl hy⟩
    ·obtain⟨Ft2,Fo2,hle3,ht2,ho2⟩:=hH
     exact⟨Ft2,Fo2,fun y=>by have:=hle3 y; simp only[add,fz] at *; omega,ht2,ho2⟩
    ·have h6:=hFm y
     rcases hy with hy | hy
     ·exact⟨by have:=(hB.nb y hy).1; omega,(hB.nb y hy).2⟩
     ·exact⟨by have:=hB.one y; omega,hBm.lt y hy⟩
 obtain⟨N1,F1,Nc,hB1,hH1,hFr1,hF1m,hNc0,hrep,hNc,hN1c,hNNc⟩:=hcall
 have hBc:Base w Nc Fr0:=⟨fun y=>by have:=hB.one y; have:=hsub y; omega,fun y hy=>hB.lt y (by have:=hsub y; omega),hNc0⟩
 have hrep0':x07 w Nc lc as0 (os0.map (Act.mk tmps ds).eval) Fr0:=l0e hNNc href0 hrep0
 have hrefs: ∀a∈as0 ++ as,a.ref inR=false:=fun a ha=>by
  rcases List.mem_append.1 ha with ha | ha
  ·exact a0q a (href0 a ha)
  ·exact s08 hl a ha
 have hrepall:x07 w Nc lc (as0 ++ as) ((os0 ++ os).map (Act.mk tmps ds).eval) Fr0:=by
  rw[List.map_append]
  have:=t0n hrep0' hrep
  rwa [z0g] at this
 refine (h w Nc lc _ Fr0 Fr0 fz hBc (fun y=>by simp only[fz]; omega) hrefs hrepall rfl).mono ?_
 rintro e w' ⟨g,r,H',N',lc',F',Fr',Fo',rfl,⟨rfl,hnosh,hK⟩,hB',hr,hob',hle',hnr,hFr'⟩
 have hF'0: ∀y,1≤F' y→y<w.heap.size→1≤Fr0 y:=fun y hy hlt=>by
  rcases hFr'.fp y hy with h | h
  ·exact h
  ·omega
 have hF1z: ∀y,w.heap.size≤y→F1 y=0:=fun y hy=>by
  rcases Nat.eq_zero_or_pos (F1 y) with h | h
  ·exact h
  ·have:=hB1.lt y h; omega
 have hdis: ∀y,1≤F' y→F1 y=0:=fun y hy=>by
  rcases Nat.lt_or_ge y w.heap.size with hlt | hge
  ·have h1:=hF'0 y hy hlt
   have h2:=hF1m y; have h3:=hFm y; have h4:=hB.one y
   omega
  ·exact hF1z y hge
 have hkeep: ∀y,1≤F1 y∨N1 y→w'.heap[y]?=w.heap[y]?:=fun y hy=>by
  refine hFr'.keep y (hy.elim (hB1.lt y) fun h=>(hB1.nb y h).2) ?_
  rcases hy with hy | hy
  ·have h2:=hF1m y; have h3:=hFm y; have h4:=hB.one y
   omega
  ·exact (hNc0 y (hN1c y hy)).1
 have hkeepN: ∀y,N y→w'.heap[y]?=w.heap[y]?:=fun y hy=>hkeep y (.inr (hFr1.nn y hy))
 let N2:Nat→Prop:=fun y=>N1 y∨(b=false∧N' y∧(w.heap.size≤y∨1≤Fr0 y))
 have hN2: ∀y,N1 y→N2 y:=fun y hy=> .inl hy
 have hN'2:b=false→∀y,N' y→N2 y:=fun hb y hy=>by
  rcases hFr'.nr y hy with h | h | h
  ·rcases hNc y h with h | ⟨h,_⟩
   ·exact .inl h
   ·rw[hb] at h; cases h
  ·exact .inr ⟨hb,hy,.inr h⟩
  ·exact .inr ⟨hb,hy,.inl h⟩
 have hres:repA w' N2 lc r g Fr':=by
  have hrl: ∀N3:Nat→Prop,(∀y,N' y→N3 y)→repA w' N3 lc r g Fr':=fun N3 h3=>
   w0f (p:=fun _ _=>true) r g Fr' (fun _ _=>rfl) h3 (fun _ _ h=>by cases h) hnr hr
  cases hb:b with
  | true=>exact p0v (hnosh hb) (hrl N' fun _ h=>h)
  | false=>exact hrl N2 (hN'2 hb)
 have hB2:Base w' N2 (add F1 F'):=by
  refine⟨fun y=>?_,fun y hy=>?_,fun y hy=>?_⟩
  ·have h1:=hB1.one y; have h2:=hB'.one y
   rcases Nat.eq_zero_or_pos (F' y) with h | h
   ·simp only[add]; omega
   ·have:=hdis y h; simp only[add]; omega
  ·simp only[add] at hy
   rcases Nat.eq_zero_or_pos (F' y) with h | h
   ·exact Nat.lt_of_lt_of_le (hB1.lt y (by omega)) hFr'.size
   ·exact hB'.lt y h
  ·rcases hy with hy | ⟨_,hy,hge⟩
   ·have h1:=hB1.nb y hy
    refine⟨?_,Nat.lt_of_lt_of_le h1.2 hFr'.size⟩
    rcases Nat.eq_zero_or_pos (F' y) with h | h
    ·simp only[add]; omega
    ·have:=hF'0 y h h1.2
     have:=(hNc0 y (hN1c y hy)).1
     omega
   ·have h1:=hB'.nb y hy
    refine⟨?_,h1.2⟩
    simp only[add]
    rw[h1.1]
    rcases hge with hge | hge
    ·rw[hF1z y hge]
    ·have h2:=hF1m y; have h3:=hFm y; have h4:=hB.one y
     omega
 refine⟨_,hK,by rw[y0i]; exact hdef,by rw[x06]; exact hn,N2,lc,add F1 F',hB2,?_,hFr.trans ?_⟩
 ·obtain⟨Ft3,Fo3,hle3,ht3,ho3⟩:=hH1
  obtain⟨Ft4,hle4,ht4⟩:=w0r (w':=w') (N':=N2) (lc':=lc) (p:=deep) tmps σ1.tm Ft3 (fun y hy=>hkeep y (hy.imp_left fun h=>by have:=hle3 y; omega) |>.trans rfl) hN2 (fun id st hst y hy=>by
   have:st=[]:=by simpa [deep] using hst
   subst this
   simpa only[resF] using hy) ht3
  have ho4:y03 w' N2 lc σ1.ob Fo3:=y0q σ1.ob Fo3 (fun y hy=>hkeep y (hy.imp_left fun h=>by have:=hle3 y; omega)) hN2 (fun _ _ _=>rfl) ho3
  have h2:Hold w' N2 lc { tm:=w0u deep σ1.tm,ob:=σ1.ob } tmps (add F1 F') (add fz Fr'):=by
   refine⟨Ft4,Fo3,fun y=>?_,ht4,ho4⟩
   have h3:=hle3 y; have h4:=hle4 y; have h6:=hle' y
   simp only[add,fz] at *
   omega
  exact y0j (ds:=ds) h2 hres (fun k hk=>by rw[hn]; exact hd k hk)
 ·refine⟨hFr'.os,hFr'.tape,hFr'.output,hFr'.size,fun y hy h0=>hFr'.keep y hy (by have:=hsub y; omega),fun y hy=>?_,fun y hy=>hN2 y (hFr1.nn y hy),fun y hy=>?_,fun _ _=>rfl⟩
  ·simp only[add] at hy
   rcases Nat.eq_zero_or_pos (F' y) with h | h
   ·left
    have:=hF1m y; have:=hFm y; omega
   ·rcases hFr'.fp y h with h | h
    ·left; have:=hsub y; omega
    ·exact .inr h
  ·rcases hy with hy | ⟨_,hy,hge⟩
   ·rcases hFr1.nr y hy with h | h | h
    ·exact .inl h
    ·right; left; have:=hFm y; omega
    ·have:=(hB1.nb y hy).2; omega
   ·rcases hge with hge | hge
    ·exact .inr (.inr hge)
    ·right; left; have:=hsub y; omega
theorem r19 {o:Oper} {f k:Nat} {fn:Func} {c:Call} {xs:List X} {os:List Operand} {K:St→Prop} {w0:World} {F0:Fp} {N0:Nat→Prop} {lc0:Loc} {n:Nat} {a:Act} {Q:Exit→Act→World→Prop}
 (ho:o.op = .call c) (hc:c.callee = .value (.func f)) (hargs:c.args=os.toArray) (hf:P.funcs[f]?=some fn) (hname:(fn.name == "runtime.NumGoroutine")=false) (hbody:fn.body.isNone=false) (hx:XL xs os) (hd: ∀k,o.dst=some k→k<n)
 (h:x1x P o.dst f k xs K σ) (hs:SR w0 F0 N0 lc0 n σ a w):o.wp P a w (fun a' w'=>∃σ',K σ'∧SR w0 F0 N0 lc0 n σ' a' w') Q:=by
 obtain⟨hdef,hn,N,lc,F,hB,hh,hFr⟩:=hs
 obtain⟨tmps,ds⟩:=a
 simp only at hdef hn hh
 obtain⟨hx1,hx2⟩:=d02 k hx
 unfold x1x at h
 cases hg:p0g σ (xs.take k) with
 | none=>rw[hg] at h; exact h.elim
 | some y=>
   obtain⟨as0,σ0⟩:=y
   rw[hg] at h
   simp only[d0f] at h
   cases hl:u0r σ0 (xs.drop k) with
   | none=>rw[hl] at h; exact h.elim
   | some z=>
     obtain⟨b,as,σ1⟩:=z
     rw[hl] at h
     simp only[d0g,x1z] at h
     obtain⟨Gg,h1,h2⟩:=m0g (ds:=ds) hg hx1 hh
     rw[v0c] at h2
     exact x1y ho hc (by rw[List.take_append_drop]; exact hargs) hf hname hbody hx2 hd hdef hn hB hFr (l0b h.1) h1 h2 hl h.2
end
def d0j (P:Program) (d:Option Nat) (f:Nat) (K:St→Prop) (root:Nat) (st0:Path) (o o1:Obj) (b:Bool) (as:List A) (σ1:St):Prop:=
 CallsA P f as [(1000,o1)] fun r H'=>∃o',H'=[(1000,o')]∧o'.t=o1.t∧o'.e=o1.e∧(st0=[]∨o'.xs.length=o1.xs.length)∧(b=true→u0s r=true∧y0c o'.xs=true)∧
  K (setT { tm:=w0u deep σ1.tm,ob:=put σ1.ob root ⟨o.t,o.e,setA o.xs st0 o'.xs⟩ } d r)
def i0e (P:Program) (d:Option Nat) (f:Nat) (K:St→Prop) (as1:List A) (root:Nat) (st0:Path) (o:Obj):Option Obj→Option (Bool×List A×St)→Prop
 | some o1,some (b,as,σ1)=>d0j P d f K root st0 o o1 b (as ++ as1) σ1
 | _,_=>False
def i0d (P:Program) (d:Option Nat) (f:Nat) (xs:List X) (K:St→Prop) (as1:List A) (σ:St) (root:Nat) (st0:Path):Option Obj→Prop
 | some o=>i0e P d f K as1 root st0 o (getA o.t o.e o.xs st0) (renX (ren1 st0) root { σ with ob:=del σ.ob root } xs)
 | none=>False
def i0c (P:Program) (d:Option Nat) (f:Nat) (xs:List X) (K:St→Prop) (as1:List A) (σ:St):Option (List (Nat×Path))→Prop
 | some [(root,st0)]=>i0d P d f xs K as1 σ root st0 (look σ.ob root)
 | _=>False
def i0b (P:Program) (d:Option Nat) (f:Nat) (x:X) (xs:List X) (K:St→Prop):Option (List A×St)→Prop
 | some (as1,σ0)=>y1u as1=false∧i0c P d f xs K as1 σ0 ((ev σ0 x).map p10)
 | none=>False
def g0f (P:Program) (d:Option Nat) (f:Nat) (x:X) (xs:List X) (K:St→Prop) (σ:St):Prop:=i0b P d f x (xs.take 1) K (p0g σ (xs.drop 1))
section
variable {P:Program} {w:World} {N:Nat→Prop} {lc:Loc} {tmps:Array Value} {ds:List Deferred} {F G:Fp} {σ σ1:St} {root:Nat}
theorem w13 {o:Oper} {f:Nat} {fn:Func} {c:Call} {x:X} {xs:List X} {os:List Operand} {K:St→Prop} {w0:World} {F0:Fp} {N0:Nat→Prop} {lc0:Loc} {n:Nat} {a:Act} {Q:Exit→Act→World→Prop}
 (ho:o.op = .call c) (hc:c.callee = .value (.func f)) (hargs:c.args=os.toArray) (hf:P.funcs[f]?=some fn) (hname:(fn.name == "runtime.NumGoroutine")=false) (hbody:fn.body.isNone=false) (hx:XL xs os) (hd: ∀k,o.dst=some k→k<n)
 (h:g0f P o.dst f x xs K σ) (hs:SR w0 F0 N0 lc0 n σ a w):o.wp P a w (fun a' w'=>∃σ',K σ'∧SR w0 F0 N0 lc0 n σ' a' w') Q:=by
 obtain⟨hdef,hn,N,lc,F,hB,hh,hFr⟩:=hs
 obtain⟨tmps,ds⟩:=a
 simp only at hdef hn hh
 obtain⟨hx1,hx2⟩:=d02 1 hx
 unfold g0f at h
 cases hg:p0g σ (xs.drop 1) with
 | none=>rw[hg] at h; exact h.elim
 | some y=>
 obtain⟨as1,σ0⟩:=y
 rw[hg] at h
 simp only[i0b] at h
 obtain⟨href,h⟩:=h
 obtain⟨Gg,hrep1,hh⟩:=m0g (ds:=ds) hg hx2 hh
 rw[v0c] at hh
 cases hev:(ev σ0 x).map p10 with
 | none=>rw[hev] at h; exact h.elim
 | some rs=>
 rw[hev] at h
 match rs,h with
 | [],h=>exact h.elim
 | _ :: _ :: _,h=>exact h.elim
 | [(root,st0)],h=>
 simp only[i0c] at h
 cases hob:look σ0.ob root with
 | none=>rw[hob] at h; exact h.elim
 | some ob=>
 rw[hob] at h
 simp only[i0d] at h
 cases hga:getA ob.t ob.e ob.xs st0 with
 | none=>rw[hga] at h; exact h.elim
 | some o1=>
 rw[hga] at h
 cases hl:renX (ren1 st0) root { σ0 with ob:=del σ0.ob root } (xs.take 1) with
 | none=>rw[hl] at h; exact h.elim
 | some rx=>
 obtain⟨b,as,σ1⟩:=rx
 rw[hl] at h
 simp only[i0e,d0j] at h
 obtain⟨Ft,Fo,hle,htm,hobs⟩:=hh
 obtain⟨FrR,Fre,hle2,hOR,hrest⟩:=y0d σ0.ob Fo root ob hob hobs
 obtain⟨l',Fr0,Fx,hl',hO,rfl,hback⟩:=v0v st0 hOR hga
 subst hl'
 refine g0e (σ:=σ0) (os:=os.take 1) (os1:=os.drop 1) (as1:=as1) (Fg:=Gg) (Rest:=fun H' on=>∃o',H'=[(1000,o')]∧o'.t=o1.t∧o'.e=o1.e∧(st0=[]∨o'.xs.length=o1.xs.length)∧on=⟨ob.t,ob.e,setA ob.xs st0 o'.xs⟩) ho hc (by rw[List.take_append_drop]; exact hargs) hf hname hbody hx1 hd hdef hn hB hFr (l0b href) hrep1 t15 htm hrest
  (fun y=>by have:=hle y; have:=hle2 y; simp only[fz,add] at *; omega) (Fr0:=Fr0) (Fx:=Fx) (H:=[(1000,o1)]) ?_ ?_ ?_ hl (h.to ?_)
 ·simp only[y03]
  exact⟨Fr0,fz,(z0g _).symm,by simpa [lcR] using hO,rfl⟩
 ·rintro H' on ⟨o',rfl,_⟩ id o hm
  simp only[List.mem_singleton,Prod.mk.injEq] at hm
  omega
 ·rintro w' N' H' on Fa ⟨o',rfl,hot,hoe,holen,rfl⟩ hk hN hO'
  simp only[y03,lcR,if_true] at hO'
  obtain⟨Fa',Fb,rfl,hO',rfl⟩:=hO'
  rw[hot,hoe] at hO'
  rcases holen with rfl | hlen
  ·simp only[getA,Option.some.injEq] at hga
   subst hga
   exact⟨Fa',fun y=>by simp only[add]; omega,by simpa only[setA,resF] using hO'⟩
  ·exact⟨add Fa' Fx,fun y=>by simp only[add,fz]; omega,hback w' N' o'.xs Fa' hlen hk hN hO'⟩
 ·rintro r H' ⟨o',rfl,h1,h2,h3,h4,h5⟩
  exact⟨_,⟨o',rfl,h1,h2,h3,rfl⟩,fun hb=>by simpa [r06] using h4 hb,h5⟩
end
end Go.Am
namespace Go.Am
mutual
def v0t (ρ:Ren) (σ:St):C→Option (Bool×C)
 | .vw t e id st lo n=>match ρ id st with
   | some (id',q)=>some (false,.vw t e id' q lo n)
   | none=>v0q σ (.vw t e id st lo n)
 | .pt e id st i f=>match ρ id st with
   | some (id',q)=>some (false,.pt e id' q i f)
   | none=>v0q σ (.pt e id st i f)
 | .ps cs=>match u0l ρ σ cs with
   | some (b,cs')=>some (b,.ps cs')
   | none=>none
 | .fn f cap=>match u0l ρ σ cap with
   | some (b,cs')=>some (b,.fn f cs')
   | none=>none
 | c=>v0q σ c
def u0l (ρ:Ren) (σ:St):List C→Option (Bool×List C)
 | []=>some (false,[])
 | c :: cs=>match v0t ρ σ c,u0l ρ σ cs with
   | some (b,c'),some (b',cs')=>some (b || b',c' :: cs')
   | _,_=>none
end
def k0q (ρ:Ren) (σ:St):A→Option (Bool×A)
 | .one c=>match v0t ρ σ c with
   | some (b,c')=>some (b,.one c')
   | none=>none
 | .agg cs=>match u0l ρ σ cs with
   | some (b,cs')=>some (b,.agg cs')
   | none=>none
 | .tup _=>none
def k0r (ρ:Ren) (σ:St):List X→Option (Bool×List A×St)
 | []=>some (false,[],σ)
 | x :: xs=>match v06 σ x with
   | some (a,σ1)=>match k0q ρ σ1 a with
     | some (b,a')=>match k0r ρ σ1 xs with
       | some (b',as,σ2)=>some (b || b',a' :: as,σ2)
       | none=>none
     | none=>none
   | none=>none
def q09 (w:World) (lc lcH:Loc) (ρ:Ren):Prop:=∀id p id' q,ρ id p=some (id',q)→1000≤id'∧resF w (lc id) p=resF w (lcH id') q
section
variable {P:Program} {w:World} {N:Nat→Prop} {lc lcH:Loc} {tmps:Array Value} {ds:List Deferred} {F G:Fp} {σ σ1:St} {ρ:Ren}
theorem j0o: ∀{cs cs':List C} {b:Bool},u0l ρ σ cs=some (b,cs')→cs'.length=cs.length
 | [],cs',b,h=>by
   simp only[u0l,Option.some.injEq,Prod.mk.injEq] at h
   rw[← h.2]
 | c :: cs,cs',b,h=>by
   simp only[u0l] at h
   split at h
   case h_2=>cases h
   rename_i hcs
   simp only[Option.some.injEq,Prod.mk.injEq] at h
   obtain⟨_,rfl⟩:=h
   simp[j0o hcs]
mutual
theorem a0t (hρ:q09 w lc lcH ρ) (hh:Hold w N lc σ tmps F G): ∀(c:C) {c':C} {b:Bool} {g:Value} {F0:Fp},v0t ρ σ c=some (b,c')→repT w N lc c g F0→(∀b,F0 b≤F b)→
 repT w (v0r N F) lcH c' g fz∧(b=false→∀N',(∀b,1≤F0 b→N' b)→(∀b,N b→N' b)→repT w N' lcH c' g fz)
 | .vw t e id st lo n,c',b,g,F0,h,hr,hle0=>by
   simp only[v0t] at h
   split at h
   ·rename_i id' q hq
    simp only[Option.some.injEq,Prod.mk.injEq] at h
    obtain⟨rfl,rfl⟩:=h
    have key: ∀N',repT w N' lcH (.vw t e id' q lo n) g fz:=by
     intro N'
     obtain⟨_,h⟩:=hr
     rw[(hρ _ _ _ _ hq).2] at h
     exact⟨rfl,h⟩
    exact⟨key _,fun _ N' _ _=>key N'⟩
   ·obtain⟨k1,k2⟩:=v01 h hr hle0 hh
    exact⟨y0z (z0v h) k1,fun hb N' h1 h2=>y0z (z0v h) (k2 hb N' h1 h2)⟩
 | .pt e id st i f,c',b,g,F0,h,hr,hle0=>by
   simp only[v0t] at h
   split at h
   case h_2=>
    obtain⟨k1,k2⟩:=v01 h hr hle0 hh
    exact⟨y0z (z0v h) k1,fun hb N' h1 h2=>y0z (z0v h) (k2 hb N' h1 h2)⟩
   rename_i id' q hq
   simp only[Option.some.injEq,Prod.mk.injEq] at h
   obtain⟨rfl,rfl⟩:=h
   have key: ∀N',repT w N' lcH (.pt e id' q i f) g fz:=by
    intro N'
    obtain⟨_,h⟩:=hr
    rw[(hρ _ _ _ _ hq).2] at h
    exact⟨rfl,h⟩
   exact⟨key _,fun _ N' _ _=>key N'⟩
 | .ps cs,c',b,g,F0,h,hr,hle0=>by
   simp only[v0t] at h
   split at h
   case h_2=>cases h
   rename_i b1 cs' hcs
   simp only[Option.some.injEq,Prod.mk.injEq] at h
   obtain⟨rfl,rfl⟩:=h
   obtain⟨_,b,off,cur,ty,fr,hg,hb,hhp,ho,hrow⟩:=hr
   have hl:=j0o hcs
   rw[← hl] at hrow ho
   obtain⟨k1,k2⟩:=r0b hρ hh cs hcs hrow (fun _=>Nat.zero_le _)
   exact⟨⟨rfl,b,off,cur,ty,fr,hg,.inl hb,hhp,ho,k1⟩,fun hb1 N' h1 h2=>⟨rfl,b,off,cur,ty,fr,hg,h2 b hb,hhp,ho,k2 hb1 N' (fun b hb=>by simp[fz] at hb) h2⟩⟩
 | .fn f cap,c',b,g,F0,h,hr,hle0=>by
   simp only[v0t] at h
   split at h
   case h_2=>cases h
   rename_i b1 cs' hcs
   simp only[Option.some.injEq,Prod.mk.injEq] at h
   obtain⟨rfl,rfl⟩:=h
   obtain⟨_,vs,hg,hrow⟩:=hr
   obtain⟨k1,k2⟩:=r0b hρ hh cap hcs hrow (fun _=>Nat.zero_le _)
   exact⟨⟨rfl,vs,hg,k1⟩,fun hb1 N' h1 h2=>⟨rfl,vs,hg,k2 hb1 N' (fun b hb=>by simp[fz] at hb) h2⟩⟩
 | .dead,c',b,g,F0,h,hr,hle0=>by
   simp only[v0t] at h
   obtain⟨k1,k2⟩:=v01 (σ:=σ) h hr hle0 hh
   exact⟨y0z (z0v (σ:=σ) h) k1,fun hb N' h1 h2=>y0z (z0v (σ:=σ) h) (k2 hb N' h1 h2)⟩
 | .op ..,c',b,g,F0,h,hr,hle0=>by
   simp only[v0t] at h
   obtain⟨k1,k2⟩:=v01 (σ:=σ) h hr hle0 hh
   exact⟨y0z (z0v (σ:=σ) h) k1,fun hb N' h1 h2=>y0z (z0v (σ:=σ) h) (k2 hb N' h1 h2)⟩
 | .int ..,c',b,g,F0,h,hr,hle0=>by
   simp only[v0t] at h
   obtain⟨k1,k2⟩:=v01 (σ:=σ) h hr hle0 hh
   exact⟨y0z (z0v (σ:=σ) h) k1,fun hb N' h1 h2=>y0z (z0v (σ:=σ) h) (k2 hb N' h1 h2)⟩
 | .bool ..,c',b,g,F0,h,hr,hle0=>by
   simp only[v0t] at h
   obtain⟨k1,k2⟩:=v01 (σ:=σ) h hr hle0 hh
   exact⟨y0z (z0v (σ:=σ) h) k1,fun hb N' h1 h2=>y0z (z0v (σ:=σ) h) (k2 hb N' h1 h2)⟩
 | .str ..,c',b,g,F0,h,hr,hle0=>by
   simp only[v0t] at h
   obtain⟨k1,k2⟩:=v01 (σ:=σ) h hr hle0 hh
   exact⟨y0z (z0v (σ:=σ) h) k1,fun hb N' h1 h2=>y0z (z0v (σ:=σ) h) (k2 hb N' h1 h2)⟩
 | .np,c',b,g,F0,h,hr,hle0=>by
   simp only[v0t] at h
   obtain⟨k1,k2⟩:=v01 (σ:=σ) h hr hle0 hh
   exact⟨y0z (z0v (σ:=σ) h) k1,fun hb N' h1 h2=>y0z (z0v (σ:=σ) h) (k2 hb N' h1 h2)⟩
 | .ar ..,c',b,g,F0,h,hr,hle0=>by
   simp only[v0t] at h
   obtain⟨k1,k2⟩:=v01 (σ:=σ) h hr hle0 hh
   exact⟨y0z (z0v (σ:=σ) h) k1,fun hb N' h1 h2=>y0z (z0v (σ:=σ) h) (k2 hb N' h1 h2)⟩
theorem r0b (hρ:q09 w lc lcH ρ) (hh:Hold w N lc σ tmps F G): ∀(cs:List C) {cs':List C} {b:Bool} {vs:List Value} {F0:Fp},u0l ρ σ cs=some (b,cs')→z0m w N lc cs vs F0→(∀b,F0 b≤F b)→
 z0m w (v0r N F) lcH cs' vs fz∧(b=false→∀N',(∀b,1≤F0 b→N' b)→(∀b,N b→N' b)→z0m w N' lcH cs' vs fz)
 | [],cs',b,vs,F0,h,hr,_=>by
   simp only[u0l,Option.some.injEq,Prod.mk.injEq] at h
   obtain⟨rfl,rfl⟩:=h
   exact⟨⟨hr.1,rfl⟩,fun _ _ _ _=>⟨hr.1,rfl⟩⟩
 | c :: cs,cs',b,vs,F0,h,hr,hle=>by
   obtain⟨v,vs',F1,F2,rfl,rfl,h1,h2⟩:=hr
   simp only[u0l] at h
   split at h
   case h_2=>cases h
   rename_i b1 c1 b2 cs1 hc hcs
   simp only[Option.some.injEq,Prod.mk.injEq] at h
   obtain⟨rfl,rfl⟩:=h
   obtain⟨k1,k2⟩:=a0t hρ hh c hc h1 (fun b=>by have:=hle b; simp only[add] at this; omega)
   obtain⟨k3,k4⟩:=r0b hρ hh cs hcs h2 (fun b=>by have:=hle b; simp only[add] at this; omega)
   refine⟨⟨v,vs',fz,fz,rfl,(z0g _).symm,k1,k3⟩,fun hb N' h3 h4=>?_⟩
   simp only[Bool.or_eq_false_iff] at hb
   exact⟨v,vs',fz,fz,rfl,(z0g _).symm,k2 hb.1 N' (fun b hb=>h3 b (by simp only[add]; omega)) h4,k4 hb.2 N' (fun b hb=>h3 b (by simp only[add]; omega)) h4⟩
end
theorem p13 (hρ:q09 w lc lcH ρ) {a a':A} {b:Bool} {g:Value} {F0:Fp} (h:k0q ρ σ a=some (b,a')) (hr:repA w N lc a g F0) (hle: ∀b,F0 b≤F b) (hh:Hold w N lc σ tmps F G) :
 repA w (v0r N F) lcH a' g fz∧(b=false→∀N',(∀b,1≤F0 b→N' b)→(∀b,N b→N' b)→repA w N' lcH a' g fz):=by
 cases a with
 | one c=>
   simp only[k0q] at h
   split at h
   case h_2=>cases h
   rename_i b1 c1 hc
   simp only[Option.some.injEq,Prod.mk.injEq] at h
   obtain⟨rfl,rfl⟩:=h
   exact a0t hρ hh c hc hr hle
 | agg cs=>
   simp only[k0q] at h
   split at h
   case h_2=>cases h
   rename_i b1 c1 hc
   simp only[Option.some.injEq,Prod.mk.injEq] at h
   obtain⟨rfl,rfl⟩:=h
   obtain⟨vs,hg,hr⟩:=hr
   obtain⟨k1,k2⟩:=r0b hρ hh cs hc hr hle
   exact⟨⟨vs,hg,k1⟩,fun hb N' h3 h4=>⟨vs,hg,k2 hb N' h3 h4⟩⟩
 | tup xs=>simp[k0q] at h
theorem a0u (hρ:q09 w lc lcH ρ): ∀{xs:List X} {os:List Operand} {b:Bool} {as:List A} {σ σ1:St} {G:Fp},k0r ρ σ xs=some (b,as,σ1)→XL xs os→Hold w N lc σ tmps F G→
 ∃Gs,Hold w N lc σ1 tmps F (add G Gs)∧σ1.ob=σ.ob∧x07 w (v0r N F) lcH as (os.map (Act.mk tmps ds).eval) fz∧
  (b=false→∀N',(∀b,1≤Gs b→N' b)→(∀b,N b→N' b)→x07 w N' lcH as (os.map (Act.mk tmps ds).eval) fz)
 | [],os,b,as,σ,σ1,G,h,hx,hh=>by
   cases os with
   | cons=>exact hx.elim
   | nil=>
     simp only[k0r,Option.some.injEq,Prod.mk.injEq] at h
     obtain⟨rfl,rfl,rfl⟩:=h
     exact⟨fz,by rw[z0g]; exact hh,rfl,⟨rfl,rfl⟩,fun _ _ _ _=>⟨rfl,rfl⟩⟩
 | x :: xs,os,b,as,σ,σ1,G,h,hx,hh=>by
   cases os with
   | nil=>exact hx.elim
   | cons o os=>
     simp only[k0r] at h
     split at h
     case h_2=>cases h
     rename_i a0 σ2 ht
     split at h
     case h_2=>cases h
     rename_i b1 a1 hl
     split at h
     case h_2=>cases h
     rename_i b2 as2 σ3 hlx
     simp only[Option.some.injEq,Prod.mk.injEq] at h
     obtain⟨rfl,rfl,rfl⟩:=h
     obtain⟨G1,hr,hH,hob,_⟩:=y0w (ds:=ds) hx.1 ht hh
     have hle: ∀b,G1 b≤F b:=fun b=>by
      obtain⟨Ft,Fo,hle,_,_⟩:=hH
      have:=hle b; simp only[add] at this; omega
     obtain⟨k1,k2⟩:=p13 hρ hl hr hle hH
     obtain⟨Gs,hH2,hob2,k3,k4⟩:=a0u hρ hlx hx.2 hH
     refine⟨add G1 Gs,by rw[← add_assoc]; exact hH2,hob2.trans hob,⟨_,_,fz,fz,rfl,(z0g _).symm,k1,k3⟩,fun hb N' h3 h4=>?_⟩
     simp only[Bool.or_eq_false_iff] at hb
     exact⟨_,_,fz,fz,rfl,(z0g _).symm,k2 hb.1 N' (fun b hb=>h3 b (by simp only[add]; omega)) h4,k4 hb.2 N' (fun b hb=>h3 b (by simp only[add]; omega)) h4⟩
mutual
theorem e03 (hρ:q09 w lc lcH ρ): ∀(c:C) {c':C} {b:Bool},v0t ρ σ c=some (b,c')→c'.ref inR=false
 | .vw t e id st lo n,c',b,h=>by
   simp only[v0t] at h
   split at h
   ·rename_i id' q hq
    simp only[Option.some.injEq,Prod.mk.injEq] at h
    obtain⟨_,rfl⟩:=h
    have:=(hρ _ _ _ _ hq).1
    simp only[C.ref,inR,decide_eq_false_iff_not]
    omega
   ·exact z0v h
 | .pt e id st i f,c',b,h=>by
   simp only[v0t] at h
   split at h
   ·rename_i id' q hq
    simp only[Option.some.injEq,Prod.mk.injEq] at h
    obtain⟨_,rfl⟩:=h
    have:=(hρ _ _ _ _ hq).1
    simp only[C.ref,inR,decide_eq_false_iff_not]
    omega
   ·exact z0v h
 | .ps cs,c',b,h=>by
   simp only[v0t] at h
   split at h
   case h_2=>cases h
   rename_i hcs
   simp only[Option.some.injEq,Prod.mk.injEq] at h
   obtain⟨_,rfl⟩:=h
   simp only[C.ref]
   exact s0a hρ cs hcs
 | .fn f cap,c',b,h=>by
   simp only[v0t] at h
   split at h
   case h_2=>cases h
   rename_i hcs
   simp only[Option.some.injEq,Prod.mk.injEq] at h
   obtain⟨_,rfl⟩:=h
   simp only[C.ref]
   exact s0a hρ cap hcs
 | .dead,c',b,h=>by simp only[v0t] at h; exact z0v (σ:=σ) h
 | .op ..,c',b,h=>by simp only[v0t] at h; exact z0v (σ:=σ) h
 | .int ..,c',b,h=>by simp only[v0t] at h; exact z0v (σ:=σ) h
 | .bool ..,c',b,h=>by simp only[v0t] at h; exact z0v (σ:=σ) h
 | .str ..,c',b,h=>by simp only[v0t] at h; exact z0v (σ:=σ) h
 | .np,c',b,h=>by simp only[v0t] at h; exact z0v (σ:=σ) h
 | .ar ..,c',b,h=>by simp only[v0t] at h; exact z0v (σ:=σ) h
theorem s0a (hρ:q09 w lc lcH ρ): ∀(cs:List C) {cs':List C} {b:Bool},u0l ρ σ cs=some (b,cs')→x0f inR cs'=false
 | [],cs',b,h=>by
   simp only[u0l,Option.some.injEq,Prod.mk.injEq] at h
   obtain⟨_,rfl⟩:=h
   rfl
 | c :: cs,cs',b,h=>by
   simp only[u0l] at h
   split at h
   case h_2=>cases h
   rename_i b1 c1 b2 cs1 hc hcs
   simp only[Option.some.injEq,Prod.mk.injEq] at h
   obtain⟨_,rfl⟩:=h
   simp only[x0f,e03 hρ c hc,s0a hρ cs hcs,Bool.or_self]
end
theorem t1a (hρ:q09 w lc lcH ρ) {a a':A} {b:Bool} (h:k0q ρ σ a=some (b,a')):a'.ref inR=false:=by
 cases a with
 | one c=>
   simp only[k0q] at h
   split at h
   case h_2=>cases h
   rename_i hc
   simp only[Option.some.injEq,Prod.mk.injEq] at h
   obtain⟨_,rfl⟩:=h
   exact e03 hρ _ hc
 | agg cs=>
   simp only[k0q] at h
   split at h
   case h_2=>cases h
   rename_i hc
   simp only[Option.some.injEq,Prod.mk.injEq] at h
   obtain⟨_,rfl⟩:=h
   exact s0a hρ _ hc
 | tup xs=>simp[k0q] at h
theorem e04 (hρ:q09 w lc lcH ρ): ∀{xs:List X} {as:List A} {b:Bool} {σ σ1:St},k0r ρ σ xs=some (b,as,σ1)→∀a∈as,a.ref inR=false
 | [],as,b,σ,σ1,h,a,ha=>by
   simp only[k0r,Option.some.injEq,Prod.mk.injEq] at h
   obtain⟨_,rfl,_⟩:=h
   cases ha
 | x :: xs,as,b,σ,σ1,h,a,ha=>by
   simp only[k0r] at h
   split at h
   case h_2=>cases h
   split at h
   case h_2=>cases h
   rename_i hl
   split at h
   case h_2=>cases h
   rename_i hlx
   simp only[Option.some.injEq,Prod.mk.injEq] at h
   obtain⟨_,rfl,_⟩:=h
   rcases List.mem_cons.1 ha with rfl | ha
   ·exact t1a hρ hl
   ·exact e04 hρ hlx a ha
theorem n03: ∀{l l':List (Nat×Obj)} {F F':Fp},y03 w N lc l F→y03 w N lc l' F'→y03 w N lc (l ++ l') (add F F')
 | [],l',F,F',h,h'=>by
   have:F=fz:=h
   subst this
   rw[v0c]; exact h'
 | (id,o) :: r,l',F,F',h,h'=>by
   simp only[y03] at h
   obtain⟨F1,F2,rfl,h1,h2⟩:=h
   simp only[List.cons_append,y03]
   exact⟨F1,add F2 F',by rw[add_assoc],h1,n03 h2 h'⟩
theorem d07 {o:Oper} {f:Nat} {gs:List Value} {K:St→Prop} {w0:World} {F0:Fp} {N0:Nat→Prop} {lc0:Loc} {n:Nat} {Q:Exit→Act→World→Prop}
 (hrun:(execOp (Act.mk tmps ds).eval o).run P w = .ok (.enter f gs.toArray) w) (hd: ∀k,o.dst=some k→k<n)
 (hdef:ds=[]) (hn:tmps.size=n) (hB:Base w N F) (hFr:Fr w0 F0 N0 lc0 w F N lc) {Fr0 Fx Gs Fm:Fp} {H:List (Nat×Obj)} {Rest:List (Nat×Obj)→List (Nat×Obj)→Prop} {b:Bool} {as:List A}
 (hFm: ∀y,Fm y+Fr0 y=F y) (hH:Hold w N lc σ1 tmps Fm (add Fx Gs)) (k1:x07 w (v0r N Fm) lcH as gs fz)
 (k2:b=false→∀N',(∀y,1≤Gs y→N' y)→(∀y,N y→N' y)→x07 w N' lcH as gs fz) (hrefs: ∀a∈as,a.ref inR=false) (hobc:y03 w N lcH H Fr0)
 (hRid: ∀H' ons,Rest H' ons→∀id o,(id,o)∈H'→1000≤id)
 (hback: ∀(w':World) (N':Nat→Prop) (H' ons:List (Nat×Obj)) (Fa:Fp),Rest H' ons→(∀y,1≤Fx y∨N y→w'.heap[y]?=w.heap[y]?)→(∀y,N y→N' y)→y03 w' N' lcH H' Fa→
   ∃Fe:Fp,(∀y,Fe y≤Fa y+Fx y)∧y03 w' N' lc ons Fe)
 (h:CallsA P f as H fun r H'=>∃ons,Rest H' ons∧(b=true→u0s r=true∧r06 H'=true)∧K (setT { tm:=w0u deep σ1.tm,ob:=ons ++ σ1.ob } o.dst r)) :
 o.wp P ⟨tmps,ds⟩ w (fun a' w'=>∃σ',K σ'∧SR w0 F0 N0 lc0 n σ' a' w') Q:=by
 have hsub: ∀y,Fr0 y≤F y:=fun y=>by have:=hFm y; omega
 have hBm:Base w N Fm:=⟨fun y=>by have:=hB.one y; have:=hFm y; omega,fun y hy=>hB.lt y (by have:=hFm y; omega),fun y hy=>⟨by have:=(hB.nb y hy).1; have:=hFm y; omega,(hB.nb y hy).2⟩⟩
 unfold Oper.wp
 rw[hrun,Oper.upon_enter]
 have hcall: ∃(N1:Nat→Prop) (F1:Fp) (Nc:Nat→Prop),Base w N1 F1∧Hold w N1 lc σ1 tmps F1 Fx∧Fr w Fm N lc w F1 N1 lc∧(∀y,F1 y≤Fm y)∧(∀y,Nc y→Fr0 y=0∧y<w.heap.size)∧x07 w Nc lcH as gs fz∧
  (∀y,Nc y→N1 y∨(b=true∧1≤F1 y))∧(∀y,N1 y→Nc y)∧(∀y,N y→Nc y):=by
  cases b with
  | false=>
    obtain⟨h3,h4,h5⟩:=p0e hBm hH
    have hGs: ∀y,Gs y≤Fm y:=fun y=>by
     obtain⟨_,_,hle3,_,_⟩:=hH
     have:=hle3 y; simp only[add,fz] at this; omega
    refine⟨_,_,frzN N Gs,h3,h4,h5,fun y=>?_,fun y hy=>?_,k2 rfl _ (fun y hy=> .inr hy) (fun y hy=> .inl hy),fun y hy=> .inl hy,fun y hy=>hy,fun y hy=> .inl hy⟩
    ·unfold frzF; split <;> omega
    ·refine⟨?_,(h3.nb y hy).2⟩
     have h6:=hFm y
     rcases hy with hy | hy
     ·have:=(hB.nb y hy).1; omega
     ·have:=hGs y; have:=hB.one y; omega
  | true=>
    refine⟨N,Fm,v0r N Fm,hBm,?_,Fr.refl ..,fun _=>Nat.le_refl _,fun y hy=>?_,k1,fun y hy=>hy.imp id fun h=>⟨rfl,h⟩,fun y hy=> .inl hy,fun y hy=> .inl hy⟩
    ·obtain⟨Ft2,Fo2,hle3,ht2,ho2⟩:=hH
     exact⟨Ft2,Fo2,fun y=>by have:=hle3 y; simp only[add,fz] at *; omega,ht2,ho2⟩
    ·have h6:=hFm y
     rcases hy with hy | hy
     ·exact⟨by have:=(hB.nb y hy).1; omega,(hB.nb y hy).2⟩
     ·exact⟨by have:=hB.one y; omega,hBm.lt y hy⟩
 obtain⟨N1,F1,Nc,hB1,hH1,hFr1,hF1m,hNc0,hrep,hNc,hN1c,hNNc⟩:=hcall
 have hBc:Base w Nc Fr0:=⟨fun y=>by have:=hB.one y; have:=hsub y; omega,fun y hy=>hB.lt y (by have:=hsub y; omega),hNc0⟩
 have hobc2:y03 w Nc lcH H Fr0:=y0q H Fr0 (fun _ _=>rfl) hNNc (fun _ _ _=>rfl) hobc
 refine (h w Nc lcH _ Fr0 fz Fr0 hBc (fun y=>by simp only[fz]; omega) hrefs hrep hobc2).mono ?_
 rintro e w' ⟨g,r,H',N',lc',F',Fr',Fo',rfl,⟨on,hRest,hnosh,hK⟩,hB',hr,hob',hle',hnr,hFr'⟩
 have hO':y03 w' N' lcH H' Fo':=y0q H' Fo' (fun _ _=>rfl) (fun _ h=>h) (fun id o hm=>(hFr'.lcs id (hRid H' on hRest id o hm)).symm) hob'
 have hF'0: ∀y,1≤F' y→y<w.heap.size→1≤Fr0 y:=fun y hy hlt=>by
  rcases hFr'.fp y hy with h | h
  ·exact h
  ·omega
 have hF1z: ∀y,w.heap.size≤y→F1 y=0:=fun y hy=>by
  rcases Nat.eq_zero_or_pos (F1 y) with h | h
  ·exact h
  ·have:=hB1.lt y h; omega
 have hdis: ∀y,1≤F' y→F1 y=0:=fun y hy=>by
  rcases Nat.lt_or_ge y w.heap.size with hlt | hge
  ·have h1:=hF'0 y hy hlt
   have h2:=hF1m y; have h3:=hFm y; have h4:=hB.one y
   omega
  ·exact hF1z y hge
 have hkeep: ∀y,1≤F1 y∨N1 y→w'.heap[y]?=w.heap[y]?:=fun y hy=>by
  refine hFr'.keep y (hy.elim (hB1.lt y) fun h=>(hB1.nb y h).2) ?_
  rcases hy with hy | hy
  ·have h2:=hF1m y; have h3:=hFm y; have h4:=hB.one y
   omega
  ·exact (hNc0 y (hN1c y hy)).1
 have hkeepN: ∀y,N y→w'.heap[y]?=w.heap[y]?:=fun y hy=>hkeep y (.inr (hFr1.nn y hy))
 let N2:Nat→Prop:=fun y=>N1 y∨(b=false∧N' y∧(w.heap.size≤y∨1≤Fr0 y))
 have hN2: ∀y,N1 y→N2 y:=fun y hy=> .inl hy
 have hN'2:b=false→∀y,N' y→N2 y:=fun hb y hy=>by
  rcases hFr'.nr y hy with h | h | h
  ·rcases hNc y h with h | ⟨h,_⟩
   ·exact .inl h
   ·rw[hb] at h; cases h
  ·exact .inr ⟨hb,hy,.inr h⟩
  ·exact .inr ⟨hb,hy,.inl h⟩
 have hres:repA w' N2 lc r g Fr'∧y03 w' N2 lcH H' Fo':=by
  have hrl: ∀N3:Nat→Prop,(∀y,N' y→N3 y)→repA w' N3 lc r g Fr':=fun N3 h3=>
   w0f (p:=fun _ _=>true) r g Fr' (fun _ _=>rfl) h3 (fun _ _ h=>by cases h) hnr hr
  cases hb:b with
  | true=>exact⟨p0v (hnosh hb).1 (hrl N' fun _ h=>h),o0k (hnosh hb).2 hO'⟩
  | false=>exact⟨hrl N2 (hN'2 hb),y0q H' Fo' (fun _ _=>rfl) (hN'2 hb) (fun _ _ _=>rfl) hO'⟩
 have hFx1: ∀y,1≤Fx y→1≤F1 y:=fun y hy=>by
  obtain⟨_,_,hle3,_,_⟩:=hH1
  have:=hle3 y; omega
 have hroot2: ∃Fe:Fp,(∀y,Fe y≤Fo' y+Fx y)∧y03 w' N2 lc on Fe:=
  hback w' N2 H' on Fo' hRest (fun y hy=>by
   rcases hy with hy | hy
   ·exact hkeep y (.inl (hFx1 y hy))
   ·exact hkeepN y hy) (fun y hy=>hN2 y (hFr1.nn y hy)) hres.2
 have hB2:Base w' N2 (add F1 F'):=by
  refine⟨fun y=>?_,fun y hy=>?_,fun y hy=>?_⟩
  ·have h1:=hB1.one y; have h2:=hB'.one y
   rcases Nat.eq_zero_or_pos (F' y) with h | h
   ·simp only[add]; omega
   ·have:=hdis y h; simp only[add]; omega
  ·simp only[add] at hy
   rcases Nat.eq_zero_or_pos (F' y) with h | h
   ·exact Nat.lt_of_lt_of_le (hB1.lt y (by omega)) hFr'.size
   ·exact hB'.lt y h
  ·rcases hy with hy | ⟨_,hy,hge⟩
   ·have h1:=hB1.nb y hy
    refine⟨?_,Nat.lt_of_lt_of_le h1.2 hFr'.size⟩
    rcases Nat.eq_zero_or_pos (F' y) with h | h
    ·simp only[add]; omega
    ·have:=hF'0 y h h1.2
     have:=(hNc0 y (hN1c y hy)).1
     omega
   ·have h1:=hB'.nb y hy
    refine⟨?_,h1.2⟩
    simp only[add]
    rw[h1.1]
    rcases hge with hge | hge
    ·rw[hF1z y hge]
    ·have h2:=hF1m y; have h3:=hFm y; have h4:=hB.one y
     omega
 refine⟨_,hK,by rw[y0i]; exact hdef,by rw[x06]; exact hn,N2,lc,add F1 F',hB2,?_,hFr.trans ?_⟩
 ·obtain⟨Ft3,Fo3,hle3,ht3,ho3⟩:=hH1
  obtain⟨Ft4,hle4,ht4⟩:=w0r (w':=w') (N':=N2) (lc':=lc) (p:=deep) tmps σ1.tm Ft3 (fun y hy=>hkeep y (hy.imp_left fun h=>by have:=hle3 y; omega) |>.trans rfl) hN2 (fun id st hst y hy=>by
   have:st=[]:=by simpa [deep] using hst
   subst this
   simpa only[resF] using hy) ht3
  have ho4:y03 w' N2 lc σ1.ob Fo3:=y0q σ1.ob Fo3 (fun y hy=>hkeep y (hy.imp_left fun h=>by have:=hle3 y; omega)) hN2 (fun _ _ _=>rfl) ho3
  obtain⟨Fe,hleE,hOE⟩:=hroot2
  have ho5:=n03 hOE ho4
  have h2:Hold w' N2 lc { tm:=w0u deep σ1.tm,ob:=on ++ σ1.ob } tmps (add F1 F') (add fz Fr'):=by
   refine⟨Ft4,add Fe Fo3,fun y=>?_,ht4,ho5⟩
   have h3:=hle3 y; have h4:=hle4 y; have h6:=hle' y; have h7:=hleE y
   simp only[add,fz] at *
   omega
  exact y0j (ds:=ds) h2 hres.1 (fun k hk=>by rw[hn]; exact hd k hk)
 ·refine⟨hFr'.os,hFr'.tape,hFr'.output,hFr'.size,fun y hy h0=>hFr'.keep y hy (by have:=hsub y; omega),fun y hy=>?_,fun y hy=>hN2 y (hFr1.nn y hy),fun y hy=>?_,fun _ _=>rfl⟩
  ·simp only[add] at hy
   rcases Nat.eq_zero_or_pos (F' y) with h | h
   ·left
    have:=hF1m y; have:=hFm y; omega
   ·rcases hFr'.fp y h with h | h
    ·left; have:=hsub y; omega
    ·exact .inr h
  ·rcases hy with hy | ⟨_,hy,hge⟩
   ·rcases hFr1.nr y hy with h | h | h
    ·exact .inl h
    ·right; left; have:=hFm y; omega
    ·have:=(hB1.nb y hy).2; omega
   ·rcases hge with hge | hge
    ·exact .inr (.inr hge)
    ·right; left; have:=hsub y; omega
end
mutual
def h12:C→List (Nat×Path)
 | .vw _ _ id st _ _=>[(id,st)]
 | .pt _ id st _ _=>[(id,st)]
 | .ps cs=>l0a cs
 | .fn _ cap=>l0a cap
 | _=>[]
def l0a:List C→List (Nat×Path)
 | []=>[]
 | c :: cs=>h12 c ++ l0a cs
end
def o19:A→List (Nat×Path)
 | .one c=>h12 c
 | .agg cs=>l0a cs
 | .tup _=>[]
def o0m:List (Nat×Path)→List (Nat×Path)
 | []=>[]
 | (id,st) :: r=>(id,st) :: (o0m r).filter (fun p=>!(p.1 == id))
def renN:Nat→List (Nat×Path)→Ren
 | _,[]=>fun _ _=>none
 | k,(id',st) :: r=>fun id p=>if id=id' then (n08 st p).map (fun q=>(1000+k,q)) else renN (k+1) r id p
def c0h:List (Nat×Obj)→List (Nat×Path)→Option (List (Obj×Obj))
 | _,[]=>some []
 | ob,(id,st) :: r=>match look ob id with
   | some o=>match getA o.t o.e o.xs st,c0h (del ob id) r with
     | some o1,some os=>some ((o,o1) :: os)
     | _,_=>none
   | none=>none
def delN:List (Nat×Obj)→List (Nat×Path)→List (Nat×Obj)
 | ob,[]=>ob
 | ob,(id,_) :: r=>delN (del ob id) r
def y1s:List (Nat×Path)→List (Obj×Obj)→List Obj→List (Nat×Obj)
 | (id,st) :: r,(o,_) :: os,o' :: os'=>(id,⟨o.t,o.e,setA o.xs st o'.xs⟩) :: y1s r os os'
 | _,_,_=>[]
def p16:List (Nat×Path)→List (Obj×Obj)→List Obj→Prop
 | [],[],[]=>True
 | (_,st) :: r,(_,o1) :: os,o' :: os'=>(o'.t=o1.t∧o'.e=o1.e∧(st=[]∨o'.xs.length=o1.xs.length))∧p16 r os os'
 | _,_,_=>False
def inN:List (Obj×Obj)→List Obj
 | []=>[]
 | (_,o) :: r=>o :: inN r
def o0g:List C→List A
 | []=>[]
 | c :: cs=> .one c :: o0g cs
section
variable {P:Program} {w:World} {N:Nat→Prop} {lc lcH:Loc} {tmps:Array Value} {ds:List Deferred} {F G:Fp} {σ σ1:St}
theorem t1b: ∀{roots:List (Nat×Path)} {k0 id id':Nat} {p q:Path},renN k0 roots id p=some (id',q)→∃k st,roots[k]?=some (id,st)∧p=st ++ q∧id'=1000+(k0+k)
 | [],_,_,_,_,_,h=>by simp[renN] at h
 | (i0,st) :: r,k0,id,id',p,q,h=>by
   simp only[renN] at h
   split at h
   ·rename_i hid
    subst hid
    obtain⟨q',hq,h⟩:=Option.map_eq_some_iff.1 h
    simp only[Prod.mk.injEq] at h
    obtain⟨rfl,rfl⟩:=h
    exact⟨0,st,by simp,k00 hq,by simp⟩
   ·obtain⟨k,st',h1,h2,h3⟩:=t1b h
    exact⟨k+1,st',by simpa using h1,h2,by omega⟩
theorem h14 {roots:List (Nat×Path)} {k0:Nat} (hl: ∀(k id:Nat) (st:Path),roots[k]?=some (id,st)→lcH (1000+(k0+k))=resF w (lc id) st):q09 w lc lcH (renN k0 roots):=by
 intro id p id' q h
 obtain⟨k,st,h1,rfl,rfl⟩:=t1b h
 exact⟨by omega,by rw[v05,hl k id st h1]⟩
theorem a0l: ∀{roots:List (Nat×Path)} {ob:List (Nat×Obj)} {Fo:Fp} {os:List (Obj×Obj)} {k0:Nat},y03 w N lc ob Fo→c0h ob roots=some os→
 (∀(k id:Nat) (st:Path),roots[k]?=some (id,st)→lcH (1000+(k0+k))=resF w (lc id) st)→
 ∃Fr0 Fx Fre:Fp,(∀y,Fr0 y+Fx y+Fre y≤Fo y)∧y03 w N lc (delN ob roots) Fre∧y03 w N lcH (hobs k0 (inN os)) Fr0∧
  ∀(w':World) (N':Nat→Prop) (os':List Obj) (Fa:Fp),p16 roots os os'→(∀y,1≤Fx y∨N y→w'.heap[y]?=w.heap[y]?)→(∀y,N y→N' y)→y03 w' N' lcH (hobs k0 os') Fa→
   ∃Fe:Fp,(∀y,Fe y≤Fa y+Fx y)∧y03 w' N' lc (y1s roots os os') Fe
 | [],ob,Fo,os,k0,h,hp,hl=>by
   simp only[c0h,Option.some.injEq] at hp
   subst hp
   refine⟨fz,fz,Fo,fun y=>by simp[fz],h,rfl,fun w' N' os' Fa hs hk hN ha=>?_⟩
   cases os' with
   | cons=>exact hs.elim
   | nil=>exact⟨fz,fun y=>by simp[fz],rfl⟩
 | (id,st) :: r,ob,Fo,os,k0,h,hp,hl=>by
   simp only[c0h] at hp
   split at hp
   case h_2=>cases hp
   rename_i o hlo
   split at hp
   case h_2=>cases hp
   rename_i o1 os1 hga hp2
   simp only[Option.some.injEq] at hp
   subst hp
   obtain⟨F1,F2,hle,hO,hrest⟩:=y0d ob Fo id o hlo h
   obtain⟨l',Fa0,Fb0,hl',hO1,rfl,hback⟩:=v0v st hO hga
   subst hl'
   obtain⟨Fr0,Fx,Fre,hle2,hdel,hobs,hback2⟩:=a0l (k0:=k0+1) hrest hp2 (fun k id' st' hk=>by
    have:=hl (k+1) id' st' (by simpa using hk)
    rwa [show k0+(k+1)=k0+1+k from by omega] at this)
   have hl0:=hl 0 id st (by simp)
   rw[Nat.add_zero] at hl0
   refine⟨add Fa0 Fr0,add Fb0 Fx,Fre,fun y=>by have:=hle y; have:=hle2 y; simp only[add] at *; omega,hdel,?_,fun w' N' os' Fa hs hk hN ha=>?_⟩
   ·simp only[inN,Go.Am.hobs,y03]
    exact⟨Fa0,Fr0,rfl,by rw[hl0]; exact hO1,hobs⟩
   ·cases os' with
    | nil=>exact hs.elim
    | cons o' os'=>
      obtain⟨⟨ht,he,hlen⟩,hs⟩:=hs
      simp only[Go.Am.hobs,y03] at ha
      obtain⟨G1,G2,rfl,hg1,hg2⟩:=ha
      rw[hl0,ht,he] at hg1
      obtain⟨Fe,hFe,hpush⟩:=hback2 w' N' os' G2 hs (fun y hy=>hk y (hy.imp_left fun h=>by simp only[add]; omega)) hN hg2
      simp only[y1s,y03]
      rcases hlen with rfl | hlen
      ·simp only[getA,Option.some.injEq] at hga
       subst hga
       exact⟨add G1 Fe,fun y=>by have:=hFe y; simp only[add]; omega,G1,Fe,rfl,by simpa only[setA,resF] using hg1,hpush⟩
      ·exact⟨add (add G1 Fb0) Fe,fun y=>by have:=hFe y; simp only[add]; omega,_,Fe,rfl,hback w' N' o'.xs G1 hlen (fun y hy=>hk y (hy.imp_left fun h=>by simp only[add]; omega)) hN hg1,hpush⟩
def lcN (w:World) (lc:Loc) (roots:List (Nat×Path)):Loc:=fun i=>match roots[i - 1000]? with
 | some (id,st)=>if 1000≤i then resF w (lc id) st else none
 | none=>none
theorem o12 {roots:List (Nat×Path)} (k id:Nat) (st:Path) (h:roots[k]?=some (id,st)):lcN w lc roots (1000+(0+k))=resF w (lc id) st:=by
 unfold lcN
 rw[show 1000+(0+k) - 1000=k from by omega,h]
 simp
end
def p1t (P:Program) (d:Option Nat) (f:Nat) (roots:List (Nat×Path)) (K:St→Prop) (os:List (Obj×Obj)) (σ1:St) (b:Bool) (as:List A):Prop:=
 CallsA P f as (hobs 0 (inN os)) fun r H'=>∃os',H'=hobs 0 os'∧p16 roots os os'∧(b=true→u0s r=true∧r06 H'=true)∧
  K (setT { tm:=w0u deep σ1.tm,ob:=y1s roots os os' ++ σ1.ob } d r)
def d0e (P:Program) (d:Option Nat) (f:Nat) (roots:List (Nat×Path)) (K:St→Prop) (os:List (Obj×Obj)) (σ1:St) (b:Bool) (as:List A):Option (Bool×List C)→Prop
 | some (b2,cap)=>p1t P d f roots K os σ1 (b || b2) (as ++ o0g cap)
 | none=>False
def d0d (P:Program) (d:Option Nat) (f:Nat) (roots:List (Nat×Path)) (cap:List C) (K:St→Prop) (os:List (Obj×Obj)):Option (Bool×List A×St)→Prop
 | some (b,as,σ1)=>d0e P d f roots K os σ1 b as (u0l (renN 0 roots) σ1 cap)
 | none=>False
def d0c (P:Program) (d:Option Nat) (f:Nat) (roots:List (Nat×Path)) (xs:List X) (cap:List C) (K:St→Prop) (σ:St):Option (List (Obj×Obj))→Prop
 | some os=>d0d P d f roots cap K os (k0r (renN 0 roots) { σ with ob:=delN σ.ob roots } xs)
 | none=>False
def d0b (P:Program) (d:Option Nat) (f:Nat) (roots:List (Nat×Path)) (xs:List X) (cap:List C) (K:St→Prop) (σ:St):Prop:=d0c P d f roots xs cap K σ (c0h σ.ob roots)
def b0n (P:Program) (d:Option Nat) (f:Nat) (K:St→Prop) (b:Bool) (as:List A) (σ1:St):Prop:=
 CallsA P f as [] fun r H'=>H'=[]∧(b=true→u0s r=true)∧K (setT σ1 d r)
def k0x (P:Program) (d:Option Nat) (f:Nat) (cap:List C) (K:St→Prop):Option (Bool×List A×St)→Prop
 | some (b,as,σ1)=>b0n P d f K b (as ++ o0g cap) σ1
 | none=>False
def p11 (σ:St) (xs:List X):List Nat→List (Nat×Path)
 | []=>[]
 | j :: js=>(match xs[j]? with
   | some x=>match ev σ x with
     | some a=>o19 a
     | none=>[]
   | none=>[]) ++ p11 σ xs js
section
variable {P:Program} {w:World} {N:Nat→Prop} {lc lcH:Loc} {tmps:Array Value} {ds:List Deferred} {F G:Fp} {σ σ1:St}
theorem o0j: ∀{cs:List C} {vs:List Value} {F:Fp},z0m w N lc cs vs F→x07 w N lc (o0g cs) vs F
 | [],_,_,h=>h
 | _ :: _,_,_,⟨v,vs',F1,F2,hv,hF,h1,h2⟩=>⟨v,vs',F1,F2,hv,hF,h1,o0j h2⟩
theorem h0c {p:Nat→Path→Bool}: ∀{cs:List C},x0f p cs=false→∀a∈o0g cs,a.ref p=false
 | [],_,a,h=>by cases h
 | c :: cs,h,a,ha=>by
   simp only[x0f,Bool.or_eq_false_iff] at h
   rcases List.mem_cons.1 ha with rfl | ha
   ·exact h.1
   ·exact h0c h.2 a ha
theorem e0i {o:Oper} {f:Nat} {fn:Func} {c:Call} {os:List Operand} {x0:Operand} {vs:List Value} (ho:o.op = .call c) (hc:c.callee = .value x0) (hev:(Act.mk tmps ds).eval x0 = .func (.func f) #[] vs.toArray)
 (hargs:c.args=os.toArray) (hf:P.funcs[f]?=some fn) (hname:(fn.name == "runtime.NumGoroutine")=false) (hbody:fn.body.isNone=false) :
 (execOp (Act.mk tmps ds).eval o).run P w = .ok (.enter f (os.map (Act.mk tmps ds).eval ++ vs).toArray) w:=by
 simp only[execOp,ho,resolve,hc,hargs,hev,Deferred.ofValue,Sem.run_bind,Sem.run_pure,Result.andThen_ok,invoke,callFunc,run_program,hf,hname,hbody,Bool.false_eq_true,if_false,List.map_toArray,List.append_toArray,List.nil_append]
theorem b0m {o:Oper} {f:Nat} {fn:Func} {c:Call} {x0:Operand} {roots:List (Nat×Path)} {xs:List X} {os:List Operand} {cap:List C} {K:St→Prop} {w0:World} {F0:Fp} {N0:Nat→Prop} {lc0:Loc} {n:Nat} {a:Act} {Q:Exit→Act→World→Prop}
 (ho:o.op = .call c) (hc:c.callee = .value x0) (hev: ∀(N:Nat→Prop) (lc:Loc) (F:Fp),Base w N F→Hold w N lc σ a.tmps F fz→∃vs:List Value,(Act.mk a.tmps a.defers).eval x0 = .func (.func f) #[] vs.toArray∧z0m w N lc cap vs fz)
 (hargs:c.args=os.toArray) (hf:P.funcs[f]?=some fn) (hname:(fn.name == "runtime.NumGoroutine")=false) (hbody:fn.body.isNone=false) (hx:XL xs os) (hd: ∀k,o.dst=some k→k<n)
 (h:d0b P o.dst f roots xs cap K σ) (hs:SR w0 F0 N0 lc0 n σ a w):o.wp P a w (fun a' w'=>∃σ',K σ'∧SR w0 F0 N0 lc0 n σ' a' w') Q:=by
 obtain⟨hdef,hn,N,lc,F,hB,hh,hFr⟩:=hs
 obtain⟨tmps,ds⟩:=a
 simp only at hdef hn hh
 obtain⟨vs,hval,hcap⟩:=hev N lc F hB hh
 unfold d0b at h
 cases hp:c0h σ.ob roots with
 | none=>rw[hp] at h; exact h.elim
 | some obs=>
 rw[hp] at h
 simp only[d0c] at h
 cases hl:k0r (renN 0 roots) { σ with ob:=delN σ.ob roots } xs with
 | none=>rw[hl] at h; exact h.elim
 | some rx=>
 obtain⟨b,as,σ1⟩:=rx
 rw[hl] at h
 simp only[d0d] at h
 cases hl2:u0l (renN 0 roots) σ1 cap with
 | none=>rw[hl2] at h; exact h.elim
 | some rc=>
 obtain⟨b2,cap'⟩:=rc
 rw[hl2] at h
 simp only[d0e,p1t] at h
 obtain⟨Ft,Fo,hle,htm,hobs⟩:=hh
 obtain⟨Fr0,Fx,Fre,hle2,hrest,hobc,hback⟩:=a0l (lcH:=lcN w lc roots) (k0:=0) hobs hp o12
 have hρ:q09 w lc (lcN w lc roots) (renN 0 roots):=h14 o12
 have hsub: ∀y,Fr0 y≤F y:=fun y=>by have:=hle y; have:=hle2 y; simp only[fz] at *; omega
 let Fm:Fp:=fun y=>F y - Fr0 y
 have hFm: ∀y,Fm y+Fr0 y=F y:=fun y=>by have:=hsub y; show F y - Fr0 y+Fr0 y=F y; omega
 have hHm:Hold w N lc { σ with ob:=delN σ.ob roots } tmps Fm Fx:=⟨Ft,Fre,fun y=>by have:=hle y; have:=hle2 y; have:=hFm y; simp only[fz] at *; omega,htm,hrest⟩
 obtain⟨Gs,hH,hobeq,k1,k2⟩:=a0u (ds:=ds) hρ hl hx hHm
 obtain⟨k3,k4⟩:=r0b hρ hH cap hl2 hcap (fun _=>Nat.zero_le _)
 have happ: ∀{N':Nat→Prop},x07 w N' (lcN w lc roots) as (os.map (Act.mk tmps ds).eval) fz→z0m w N' (lcN w lc roots) cap' vs fz→x07 w N' (lcN w lc roots) (as ++ o0g cap') (os.map (Act.mk tmps ds).eval ++ vs) fz:=by
  intro N' h1 h2
  have:=t0n h1 (o0j h2)
  rwa [z0g] at this
 refine d07 (b:=b || b2) (as:=as ++ o0g cap') (Fr0:=Fr0) (Fx:=Fx) (Gs:=Gs) (Fm:=Fm) (H:=Go.Am.hobs 0 (inN obs)) (lcH:=lcN w lc roots) (Rest:=fun H' ons=>∃os',H'=Go.Am.hobs 0 os'∧p16 roots obs os'∧ons=y1s roots obs os')
  (e0i ho hc hval hargs hf hname hbody) hd hdef hn hB hFr hFm hH (happ k1 k3) (fun hb N' h1 h2=>?_) (fun a ha=>?_) hobc ?_ ?_ (h.to ?_)
 ·simp only[Bool.or_eq_false_iff] at hb
  exact happ (k2 hb.1 N' h1 h2) (k4 hb.2 N' (fun y hy=>by simp[fz] at hy) h2)
 ·rcases List.mem_append.1 ha with ha | ha
  ·exact e04 hρ hl a ha
  ·exact h0c (s0a hρ cap hl2) a ha
 ·rintro H' ons ⟨os',rfl,_⟩ id o hm
  exact c06 hm
 ·rintro w' N' H' ons Fa ⟨os',rfl,hsm,rfl⟩ hk hN hO'
  exact hback w' N' os' Fa hsm hk hN hO'
 ·rintro r H' ⟨os',rfl,h1,h2,h3⟩
  exact⟨_,⟨os',rfl,h1,rfl⟩,h2,h3⟩
theorem w14 {o:Oper} {f:Nat} {fn:Func} {c:Call} {x0:Operand} {xs:List X} {os:List Operand} {cap:List C} {K:St→Prop} {w0:World} {F0:Fp} {N0:Nat→Prop} {lc0:Loc} {n:Nat} {a:Act} {Q:Exit→Act→World→Prop}
 (ho:o.op = .call c) (hc:c.callee = .value x0) (hev: ∀(N:Nat→Prop) (lc:Loc) (F:Fp),Base w N F→Hold w N lc σ a.tmps F fz→∃vs:List Value,(Act.mk a.tmps a.defers).eval x0 = .func (.func f) #[] vs.toArray∧z0m w N lc cap vs fz)
 (hrc:x0f (fun _ _=>true) cap=false) (hargs:c.args=os.toArray) (hf:P.funcs[f]?=some fn) (hname:(fn.name == "runtime.NumGoroutine")=false) (hbody:fn.body.isNone=false) (hx:XL xs os) (hd: ∀k,o.dst=some k→k<n)
 (h:k0x P o.dst f cap K (u0r σ xs)) (hs:SR w0 F0 N0 lc0 n σ a w):o.wp P a w (fun a' w'=>(∃σ',K σ'∧SR w0 F0 N0 lc0 n σ' a' w')∧Qw w w') Q:=by
 obtain⟨hdef,hn,N,lc,F,hB,hh,hFr⟩:=hs
 obtain⟨tmps,ds⟩:=a
 simp only at hdef hn hh
 obtain⟨vs,hval,hcap⟩:=hev N lc F hB hh
 cases hl:u0r σ xs with
 | none=>rw[hl] at h; exact h.elim
 | some rx=>
 obtain⟨b,as,σ1⟩:=rx
 rw[hl] at h
 simp only[k0x,b0n] at h
 obtain⟨Gs,hH,k1,k2⟩:=p0m (ds:=ds) hl hx hh
 have hcapN: ∀{N':Nat→Prop},(∀x,N x→N' x)→z0m w N' lc cap vs fz:=fun hN=>
  x09 (p:=fun _ _=>true) cap vs fz (fun _ _=>rfl) hN (fun _ _ h=>by cases h) hrc hcap
 have happ: ∀{N':Nat→Prop},x07 w N' lc as (os.map (Act.mk tmps ds).eval) fz→z0m w N' lc cap vs fz→x07 w N' lc (as ++ o0g cap) (os.map (Act.mk tmps ds).eval ++ vs) fz:=by
  intro N' h1 h2
  have:=t0n h1 (o0j h2)
  rwa [z0g] at this
 refine k0y (e0i ho hc hval hargs hf hname hbody) hd hdef hn hB hFr hH (happ k1 (hcapN fun _ h=> .inl h)) (fun hb N' h1 h2=>happ (k2 hb N' h1 h2) (hcapN h2)) (fun a ha=>?_) h
 rcases List.mem_append.1 ha with ha | ha
 ·exact s08 hl a ha
 ·exact h0c (w0x cap hrc) a ha
end
end Go.Am
