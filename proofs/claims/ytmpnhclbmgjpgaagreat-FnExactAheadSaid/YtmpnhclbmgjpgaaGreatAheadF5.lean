/- FRAMEWORK, text 5: contracts by a run on trees; laws of lists and marks; what an argument reads as. Proved once, for every program; no condition. -/
import Derived.Test.YtmpnhclbmgjpgaaGreatAheadF4
import Derived.ProofKit
set_option linter.unusedVariables false
set_option linter.unusedSimpArgs false
namespace Go.Am
def insO (k:Nat) (o:Obj):List (Nat×Obj)→List (Nat×Obj)
 | []=>[(k,o)]
 | (j,p) :: r=>if j<k then (j,p) :: insO k o r else (k,o) :: (j,p) :: r
def outs:List (Nat×Obj)→List (Nat×Obj)
 | []=>[]
 | (k,o) :: r=>if 1000≤k then insO k o (outs r) else outs r
def t0f (rs:List RV) (R:A→List (Nat×Obj)→Prop):Ex→St→Prop
 | .x _,_=>False
 | _,σ=>∃xs σ1,p0z σ rs=some (xs,σ1)∧R (h0h xs) (outs σ1.ob)
section
variable {P:Program} {w:World} {N:Nat→Prop} {lc:Loc} {tmps:Array Value} {ds:List Deferred} {F G:Fp} {σ σ1:St}
theorem u10 (k:Nat) (o:Go.Am.Obj): ∀(l:List (Nat×Go.Am.Obj)) (F1 F2:Fp),repO w N (lc k) o.t o.e o.xs F1→y03 w N lc l F2→y03 w N lc (insO k o l) (add F1 F2)
 | [],F1,F2,h1,h2=>by
   simp only[insO,y03]
   exact⟨F1,F2,rfl,h1,h2⟩
 | (j,p) :: r,F1,F2,h1,h2=>by
   simp only[insO]
   split
   ·simp only[y03] at h2 ⊢
    obtain⟨F3,F4,rfl,h3,h4⟩:=h2
    exact⟨F3,add F1 F4,by funext b; simp only[add]; omega,h3,u10 k o r F1 F4 h1 h4⟩
   ·simp only[y03] at h2 ⊢
    exact⟨F1,F2,rfl,h1,h2⟩
theorem u1u: ∀(ob:List (Nat×Obj)) (Fo:Fp),y03 w N lc ob Fo→∃F',(∀b,F' b≤Fo b)∧y03 w N lc (outs ob) F'
 | [],Fo,h=>⟨Fo,fun _=>Nat.le_refl _,h⟩
 | (k,o) :: r,Fo,h=>by
   simp only[y03] at h
   obtain⟨F1,F2,rfl,h1,h2⟩:=h
   obtain⟨F',hle,h'⟩:=u1u r F2 h2
   simp only[outs]
   split
   ·exact⟨add F1 F',fun b=>by have:=hle b; simp only[add]; omega,u10 k o _ F1 F' h1 h'⟩
   ·exact⟨F',fun b=>by have:=hle b; simp only[add]; omega,h'⟩
mutual
theorem c0j {p:Nat→Path→Bool}: ∀(c:C) {v:Value} {F:Fp},repC w N c v F→c.ref p=false
 | .vw ..,_,_,h=>h.elim
 | .pt ..,_,_,h=>h.elim
 | .ps ..,_,_,h=>h.elim
 | .fn f cap,_,_,h=>by
   simp only[repC] at h
   obtain⟨_,vs,_,hr⟩:=h
   exact r0a cap hr
 | .dead,_,_,_=>rfl
 | .op ..,_,_,_=>rfl
 | .int ..,_,_,_=>rfl
 | .bool ..,_,_,_=>rfl
 | .str ..,_,_,_=>rfl
 | .np,_,_,_=>rfl
 | .ar ..,_,_,_=>rfl
theorem r0a {p:Nat→Path→Bool}: ∀(cs:List C) {vs:List Value} {F:Fp},z0d w N cs vs F→x0f p cs=false
 | [],_,_,_=>rfl
 | c :: cs,_,_,h=>by
   simp only[z0d] at h
   obtain⟨v,vs',F1,F2,_,_,h1,h2⟩:=h
   simp only[x0f,c0j c h1,r0a cs h2,Bool.or_false]
end
theorem c0k {p:Nat→Path→Bool} {cs:List C} {vs:List Value} {F:Fp} (h:z0d w N cs vs F):x0f p cs=false:=r0a cs h
def t1t (tmps:Array Value):ResultVar→Sem Value
 | .tmp t=>pure (tmps.getD t undef)
 | .cell a t=>do loadVar t (← asAddr (tmps.getD a undef))
theorem t1l {r:RV} {ro:ResultVar} {x:Bool×List C} (h:e0e σ r=some (x,σ1)) (hr:RVOf P r ro) (hB:Base w N F) (hh:Hold w N lc σ tmps F G) :
 ∃(g:Value) (vs:List Value) (N':Nat→Prop) (F' G':Fp),(t1t tmps ro).run P w = .ok g w∧g=(if x.1 then .agg vs.toArray else vs.getD 0 undef)∧(x.1=false→x.2.length=1)∧z0d w N' x.2 vs G'∧Base w N' F'∧Hold w N' lc σ1 tmps F' (add G G')∧Fr w F N lc w F' N' lc:=by
 cases r with
 | t t=>
   cases ro with
   | cell=>exact hr.elim
   | tmp t'=>
     have:t=t':=hr
     subst this
     simp only[e0e] at h
     split at h
     ·rename_i c σ2 ht
      split at h
      case h_2=>cases h
      rename_i c' σ3 hs
      simp only[Option.some.injEq,Prod.mk.injEq] at h
      obtain⟨rfl,rfl⟩:=h
      obtain⟨G1,hr1,hH,_,_⟩:=y0w (x:= .t t) (o:= .tmp t) (ds:=[]) (show XOf (.t t) (.tmp t) from rfl) ht hh
      obtain⟨N',F',G',h1,h2,h3,h4⟩:=e0q hs hr1 hB hH
      exact⟨_,[(Act.mk tmps []).eval (.tmp t)],N',F',G',rfl,rfl,fun _=>rfl,⟨_,[],G',fz,rfl,(z0g _).symm,h1,rfl,rfl⟩,h2,h3,h4⟩
     ·rename_i cs σ2 ht
      split at h
      case h_2=>cases h
      rename_i cs' σ3 hs
      simp only[Option.some.injEq,Prod.mk.injEq] at h
      obtain⟨rfl,rfl⟩:=h
      obtain⟨G1,⟨vs,hv,hr1⟩,hH,_,_⟩:=y0w (x:= .t t) (o:= .tmp t) (ds:=[]) (show XOf (.t t) (.tmp t) from rfl) ht hh
      obtain⟨N',F',G',h1,h2,h3,h4⟩:=q00 hs hr1 hB hH
      exact⟨_,vs,N',F',G',rfl,hv,(fun h=>by cases h),h1,h2,h3,h4⟩
     ·cases h
 | c t n ag=>
   cases ro with
   | tmp=>exact hr.elim
   | cell t' ty=>
     obtain⟨rfl,hs,ha,h1⟩:=hr
     simp only[e0e] at h
     split at h
     case h_2=>cases h
     rename_i e id hl
     split at h
     case isFalse=>cases h
     cases hlo:look σ.ob id with
     | none=>rw[hlo] at h; simp at h
     | some o=>
       rw[hlo] at h
       simp only at h
       split at h
       case h_2=>cases h
       rename_i row hxs
       split at h
       case isFalse=>cases h
       rename_i hc
       obtain⟨he,hn,_⟩:=hc
       simp only[Option.some.injEq,Prod.mk.injEq] at h
       obtain⟨rfl,rfl⟩:=h
       obtain⟨Ft,Fo,hle,ht,ho⟩:=hh
       obtain⟨F1,F2,_,hrp,_⟩:=x00 σ.tm Ft t _ hl ht
       obtain⟨_,b,cap,hres,hv⟩:=hrp
       obtain⟨F3,F4,hle2,hO,hob⟩:=y0d σ.ob Fo id o hlo ho
       rcases hO with⟨_,hnil⟩ | ⟨b',cap',cur,F',hl2,hb,hlen,hcm,hsz,hrows,rfl⟩
       ·rw[hnil] at hxs; cases hxs
       ·have hbb:b=b':=by
         simp only[resF] at hres
         rw[hres] at hl2; injection hl2 with h; injection h
        subst hbb
        rw[hxs] at hrows
        simp only[List.length_singleton,Nat.one_mul,z09] at hrows
        obtain⟨v1,v2,G1,G2,hvs,hrl,rfl,hrow,rfl,rfl⟩:=hrows
        rw[List.append_nil] at hvs
        have hvl:=y01 hrow
        have hrun:(loadVar ty ⟨b,0,none⟩).run P w = .ok (if ag then .agg v1.toArray else v1.getD 0 undef) w:=
         w0s hs ha h1 b 0 v1 (by rw[hvl,hn]) (fun j v hj=>by
          rw[y07 hb,Nat.zero_add]
          rw[← hvs] at hj
          exact w0c hj)
        have hv':tmps.getD t undef = .pointer (some ⟨b,0,none⟩):=by simpa using hv
        refine⟨_,v1,N,F,G1,?_,rfl,fun h=>by rw[hn]; exact h1 h,hrow,hB,⟨Ft,F4,fun x=>?_,ht,hob⟩,Fr.refl ..⟩
        ·simp only[t1t,hv',asAddr,Sem.run_bind,Sem.run_pure,Result.andThen_ok,hrun]
        ·have h3:=hle x; have h4:=hle2 x; simp only[add,fz] at *; omega
theorem e0c: ∀{rs:List RV} {ros:List ResultVar} {xs:List (Bool×List C)} {σ σ1:St} {N:Nat→Prop} {F G:Fp},p0z σ rs=some (xs,σ1)→RL P rs ros→Base w N F→Hold w N lc σ tmps F G→
 ∃(gs:List Value) (N':Nat→Prop) (F' G':Fp),(ros.mapM (t1t tmps)).run P w = .ok gs w∧gs.length=ros.length∧u0m w N' lc xs gs G'∧t07 (fun _ _=>true) xs=false∧Base w N' F'∧Hold w N' lc σ1 tmps F' (add G G')∧Fr w F N lc w F' N' lc
 | [],ros,xs,σ,σ1,N,F,G,h,hx,hB,hh=>by
   cases ros with
   | cons=>exact hx.elim
   | nil=>
     simp only[p0z,Option.some.injEq,Prod.mk.injEq] at h
     obtain⟨rfl,rfl⟩:=h
     exact⟨[],N,F,fz,by simp,rfl,⟨rfl,rfl⟩,rfl,hB,by rw[z0g]; exact hh,Fr.refl ..⟩
 | r :: rs,ros,xs,σ,σ1,N,F,G,h,hx,hB,hh=>by
   cases ros with
   | nil=>exact hx.elim
   | cons ro ros=>
     simp only[p0z] at h
     split at h
     case h_2=>cases h
     rename_i x σ2 h1
     split at h
     case h_2=>cases h
     rename_i xs2 σ3 h2
     simp only[Option.some.injEq,Prod.mk.injEq] at h
     obtain⟨rfl,rfl⟩:=h
     obtain⟨g,vs,N1,F1,G1,k1,k2,k3,k4,k5,k6,k7⟩:=t1l h1 hx.1 hB hh
     obtain⟨gs,N2,F2,G2,j1,jl,j2,j3,j4,j5,j6⟩:=e0c h2 hx.2 k5 k6
     obtain⟨ag,cs⟩:=x
     have hrow:z0d w N2 cs vs G1:=y0n cs vs G1 (fun _ _=>rfl) j6.nn k4
     refine⟨g :: gs,N2,F2,add G1 G2,?_,by simp[jl],⟨g,gs,G1,G2,rfl,rfl,?_,j2⟩,?_,j4,by rw[← add_assoc]; exact j5,k7.trans j6⟩
     ·rw[List.mapM_cons]
      simp only[Sem.run_bind,k1,Result.andThen_ok,j1,Sem.run_pure]
     ·cases ag with
      | true=>exact⟨vs,k2,s0n hrow⟩
      | false=>
        have hl:=k3 rfl
        match cs,hl with
        | [c],_=>
          simp only[z0d] at hrow
          obtain⟨v,vs',H1,H2,rfl,rfl,m1,rfl,rfl⟩:=hrow
          simp only[Bool.false_eq_true,if_false]
          refine⟨c,rfl,?_⟩
          rw[z0g,k2]
          exact u07 m1
     ·simp only[t07,j3,Bool.or_false]
      exact c0k hrow
theorem c0m {fn:Func} {ros:List ResultVar} (h:fn.results=ros.toArray) {gs:List Value} (hg:(ros.mapM (t1t tmps)).run P w = .ok gs w) :
 (results fn tmps).run P w = .ok (if h:gs.toArray.size=1 then gs.toArray[0] else .tuple gs.toArray) w:=by
 have hfun:results fn tmps=(fn.results.mapM (t1t tmps) >>= fun vs=>pure (if h:vs.size=1 then vs[0] else .tuple vs)):=by
  unfold results
  first | rfl | (congr 1; congr 1; funext x; cases x <;> rfl)
 rw[hfun,h,Array.mapM_eq_mapM_toList]
 simp only[List.toList_toArray]
 simp only[Sem.run_bind,Sem.run_map,hg,Result.andThen_ok,Sem.run_pure]
theorem a0w {lc1:Loc}: ∀{args:List A} {gs:List Value} {G:Fp},(∀a∈args,a.ref inR=false)→(∀id,1000≤id→lc1 id=lc id)→x07 w N lc args gs G→x07 w N lc1 args gs G
 | [],_,_,_,_,h=>h
 | a :: as,_,_,hin,hl,⟨g,gs',F1,F2,hg,hF,h1,h2⟩=>by
   refine⟨g,gs',F1,F2,hg,hF,w0f (p:=inR) a g F1 (fun _ _=>rfl) (fun _ h=>h) (fun id st hp x hx=>?_) (hin a (List.mem_cons_self ..)) h1,a0w (fun a ha=>hin a (List.mem_cons_of_mem _ ha)) hl h2⟩
   have:1000≤id:=by simpa [inR] using hp
   rw[hl id this]; exact hx
theorem b0r: ∀{args:List A} {gs:List Value} {i:Nat} {σ:St} {lc:Loc} {G:Fp},x07 w N lc args gs G→(∀a∈args,a.ref inR=false)→(∀j v,gs[j]?=some v→tmps[i+j]?=some v)→i+args.length≤1000→Hold w N lc σ tmps F G→
 ∃lc',(∀id,1000≤id→lc' id=lc id)∧Hold w N lc' (p0c i args σ) tmps F fz
 | [],gs,i,σ,lc,G,h,_,_,_,hh=>by
   obtain⟨_,rfl⟩:=h
   exact⟨lc,fun _ _=>rfl,hh⟩
 | a :: as,_,i,σ,lc,_,⟨g,gs',F1,F2,rfl,rfl,h1,h2⟩,hin,ht,hi,hh=>by
   have hti:tmps[i]?=some g:=by simpa using ht 0 g rfl
   have hlt:i<tmps.size:=(Array.getElem?_eq_some_iff.1 hti).1
   simp only[List.length_cons] at hi
   have hh':Hold w N lc σ tmps F (add F2 F1):=by rw[add_comm]; exact hh
   obtain⟨lc1,hl1,hH1⟩:=h0a (d:=i) hlt (by omega) h1 hh'
   have hsame:tmps.setIfInBounds i g=tmps:=by
    apply Array.ext'
    apply List.ext_getElem?
    intro k
    rw[Array.toList_setIfInBounds,List.getElem?_set]
    split
    ·rename_i hk
     subst hk
     split
     ·rw[Array.getElem?_toList]; exact hti.symm
     ·rename_i hn; rw[List.getElem?_eq_none (by omega)]
    ·rfl
   rw[hsame] at hH1
   have h2':x07 w N lc1 as gs' F2:=by
    exact a0w (fun a ha=>hin a (List.mem_cons_of_mem _ ha)) hl1 h2
   obtain⟨lc2,hl2,hH2⟩:=b0r h2' (fun a ha=>hin a (List.mem_cons_of_mem _ ha)) (fun j v hj=>by have:=ht (j+1) v (by simpa using hj); rwa [show i+1+j=i+(j+1) from by omega]) (by omega) hH1
   exact⟨lc2,fun id hid=>(hl2 id hid).trans (hl1 id hid),hH2⟩
theorem g0j {f:FuncId} {fn:Func} {c:Code} {k:K} {rs:List RV} {ros:List ResultVar} {args:List A} {H:List (Nat×Obj)} {R:A→List (Nat×Obj)→Prop} (hf:P.funcs[f]?=some fn) (hb:fn.body=some c) (hc:CK P fn.ntmps c k)
 (hros:fn.results=ros.toArray) (hrs:RL P rs ros) (hnp:args.length≤fn.ntmps) (hnp2:args.length≤1000)
 (h:awp P k (t0f rs R) (o0b args H)):CallsA P f args H R:=by
 intro w N lc gs F Fa Fo hB hle hin ha hH
 have hgl:gs.length=args.length:=by
  have: ∀{as:List A} {gs:List Value} {G:Fp},x07 w N lc as gs G→gs.length=as.length:=by
   intro as
   induction as with
   | nil=>intro gs G h; simp[h.1]
   | cons a as ih=>intro gs G ⟨g,gs',F1,F2,hg,_,_,h2⟩; subst hg; simp[ih h2]
  exact this ha
 refine calls_of_wp hf hb ?_
 let tmps:Array Value:=gs.toArray ++ Array.replicate (fn.ntmps - gs.toArray.size) undef
 have hsz:tmps.size=fn.ntmps:=by simp[tmps]; omega
 have hget: ∀j v,gs[j]?=some v→tmps[0+j]?=some v:=by
  intro j v hj
  have hlt:j<gs.length:=(List.getElem?_eq_some_iff.1 hj).1
  simp only[tmps,Nat.zero_add]
  rw[Array.getElem?_append_left (by simpa using hlt)]
  simpa using hj
 have h0:Hold w N lc { tm:=[],ob:=H } tmps F Fa:=⟨fz,Fo,fun b=>by have:=hle b; simp only[fz]; omega,rfl,hH⟩
 obtain⟨lc1,hl1,hH1⟩:=b0r ha hin hget (by omega) h0
 have hsr:SR w F N lc fn.ntmps (o0b args H) { tmps:=tmps,defers:=[] } w:=by
  refine⟨rfl,hsz,N,lc1,F,hB,hH1,⟨rfl,rfl,rfl,Nat.le_refl _,fun _ _ _=>rfl,fun _ h=> .inl h,fun _ h=>h,fun _ h=> .inl h,hl1⟩⟩
 refine wp_mono (f14 hc h hsr) fun e a w' ⟨x,σ,hx,hq,hs⟩=>?_
 have fin:(∃xs σ1,p0z σ rs=some (xs,σ1)∧R (h0h xs) (outs σ1.ob))→a.defers=[]∧∃v,(results fn a.tmps).run P w' = .ok v w'∧∃(g:Value) (r:A) (H':List (Nat×Obj)) (N':Nat→Prop) (lc':Loc) (F' Fr' Fo':Fp),Ending.returned v = .returned g∧R r H'∧Base w' N' F'∧repA w' N' lc' r g Fr'∧y03 w' N' lc' H' Fo'∧
  (∀b,Fr' b+Fo' b≤F' b)∧r.ref (fun _ _=>true)=false∧Fr w F N lc w' F' N' lc':=by
  rintro⟨xs,σ1,hra,hR⟩
  obtain⟨h1,h2,N1,lc2,F1,hB1,hh,hFr⟩:=hs
  obtain⟨gs',N2,F2,G2,k1,kl,k2,k3,k4,⟨Ft,Fo2,hle2,_,hob⟩,k6⟩:=e0c hra hrs hB1 hh
  obtain⟨Fo3,hle3,hob3⟩:=u1u σ1.ob Fo2 hob
  refine⟨h1,_,c0m hros k1,_,h0h xs,outs σ1.ob,N2,lc2,F2,G2,Fo3,rfl,hR,k4,?_,hob3,fun b=>?_,?_,hFr.trans k6⟩
  ·match xs,k2 with
   | [],hk2=>
     obtain⟨rfl,rfl⟩:=hk2
     exact⟨[],by simp,rfl,rfl⟩
   | [(ag,cs)],⟨g,gs'',H1,H2,hg,hF,hone,hnil⟩=>
     obtain⟨rfl,rfl⟩:=hnil
     subst hg
     subst hF
     rw[z0g]
     simp only[h0h]
     cases ag with
     | true=>obtain⟨vs,hv,hrow⟩:=hone; simp; exact⟨vs,hv,hrow⟩
     | false=>obtain⟨c,rfl,hrow⟩:=hone; simp; exact hrow
   | (ag,cs) :: y :: ys,hk2=>
     have hne:gs'.length≠1:=by
      obtain⟨g,gs'',H1,H2,hg,hF,hone,⟨g2,gs3,_,_,hg2,_⟩⟩:=hk2
      subst hg; subst hg2; simp
     simp only[h0h]
     rw[dif_neg (by simpa using hne)]
     exact⟨gs',rfl,hk2⟩
  ·have:=hle2 b; have:=hle3 b; simp only[add,fz] at *; omega
  ·match xs with
   | []=>rfl
   | [(ag,cs)]=>
     simp only[t07,Bool.or_false] at k3
     simp only[h0h,mkA]
     cases ag with
     | true=>exact k3
     | false=>
       simp only[Bool.false_eq_true,if_false]
       match cs with
       | []=>rfl
       | [c]=>show c.ref _=false; simpa [x0f] using k3
       | _ :: _ :: _=>rfl
   | (ag,cs) :: y :: ys=>exact k3
 cases e with
 | normal=>
   injection hx with hx
   subst hx
   exact fin hq
 | ret=>
   injection hx with hx
   subst hx
   exact fin hq
 | exit i=>
   injection hx with hx
   subst hx
   exact hq.elim
 | _=>cases hx
end
end Go.Am
namespace Go.Am
structure TI where
 d:TypeDesc
 n:Nat
 b:Nat
 z:Value
 q:Bool
def TOK1 (P:Program) (t:Nat) (ti:TI):Prop:=
 P.underlying t=some ti.d∧(P.info? t).map (fun i=>(i.zero,i.size,i.bytes))=some (some ti.z,ti.n,ti.b)∧(ti.q=true→P.stoodInHeld t=false∧P.eqGuardType P.depth t=false)
def TOK (P:Program):List (Nat×TI)→Prop
 | []=>True
 | (t,ti) :: r=>TOK1 P t ti∧TOK P r
def FOK1 (P:Program) (f:Nat):Prop:=(P.funcs[f]?).map (fun fn=>(fn.name == "runtime.NumGoroutine",fn.body.isNone))=some (false,false)
def FOK (P:Program):List Nat→Prop
 | []=>True
 | f :: r=>FOK1 P f∧FOK P r
theorem z0r {P:Program}: ∀{T:List (Nat×TI)} {t:Nat} {ti:TI},TOK P T→look T t=some ti→TOK1 P t ti
 | [],_,_,_,h=>by simp[look] at h
 | (k,a) :: r,t,ti,hT,h=>by
   simp only[look] at h
   split at h
   ·rename_i hk; injection h with h; subst hk; subst h; exact hT.1
   ·exact z0r hT.2 h
theorem t00 {P:Program} {t:Nat} {ti:TI} (h:TOK1 P t ti): ∃i,P.info? t=some i∧i.size=ti.n∧i.bytes=ti.b∧i.zero=some ti.z:=by
 obtain⟨_,h,_⟩:=h
 cases hi:P.info? t with
 | none=>rw[hi] at h; simp at h
 | some i=>
   rw[hi] at h
   simp only[Option.map_some,Option.some.injEq,Prod.mk.injEq] at h
   exact⟨i,rfl,h.2.1,h.2.2,h.1⟩
theorem d01 {P:Program}: ∀{fs:List Nat} {f:Nat},FOK P fs→f∈fs→FOK1 P f
 | [],_,_,h=>by cases h
 | g :: r,f,hF,h=>by
   rcases List.mem_cons.1 h with rfl | h
   ·exact hF.1
   ·exact d01 hF.2 h
def cV (T:List (Nat×TI)) (ty:Nat):Value→Option C
 | .int k n=>some (.int k n)
 | .bool b=>some (.bool b)
 | .string s=>some (.str s)
 | .pointer none=>some .np
 | .slice none 0 0=>match look T ty with
   | some ti=>match ti.d with
     | .slice el=>match look T el with
       | some ei=>some (.ar true el ei.n [])
       | none=>none
     | _=>none
   | none=>none
 | _=>none
def cX (T:List (Nat×TI)) (ty:Nat):Operand→Option X
 | .tmp t=>some (.t t)
 | .const v=>(cV T ty v).map .c
 | .func f=>some (.c (.fn f []))
 | .global _=>none
theorem cV_ok {T:List (Nat×TI)} {ty:Nat} {v:Value} {c:C} (h:cV T ty v=some c) (w:World) (N:Nat→Prop):repC w N c v fz:=by
 unfold cV at h
 split at h
 ·injection h with h; subst h; exact⟨rfl,rfl⟩
 ·injection h with h; subst h; exact⟨rfl,rfl⟩
 ·injection h with h; subst h; exact⟨rfl,rfl⟩
 ·injection h with h; subst h; exact⟨rfl,rfl⟩
 ·split at h
  ·split at h
   ·split at h
    ·injection h with h; subst h
     simp[repC]
    ·cases h
   ·cases h
  ·cases h
 ·cases h
theorem y0s {T:List (Nat×TI)} {ty:Nat} {o:Operand} {x:X} (h:cX T ty o=some x):XOf x o:=by
 unfold cX at h
 split at h
 ·injection h with h; subst h; exact rfl
 ·rename_i v
  cases hv:cV T ty v with
  | none=>rw[hv] at h; simp at h
  | some c=>
    rw[hv] at h
    simp only[Option.map_some,Option.some.injEq] at h
    subst h
    intro w N lc a
    exact u07 (cV_ok hv w N)
 ·injection h with h; subst h
  intro w N lc a
  exact⟨rfl,[],rfl,rfl,rfl⟩
 ·cases h
def cXs (T:List (Nat×TI)):List Nat→List Operand→Option (List X)
 | _,[]=>some []
 | [],_=>none
 | t :: ts,o :: os=>match cX T t o,cXs T ts os with
   | some x,some xs=>some (x :: xs)
   | _,_=>none
theorem s06 {T:List (Nat×TI)}: ∀{ts:List Nat} {os:List Operand} {xs:List X},cXs T ts os=some xs→XL xs os
 | ts,[],xs,h=>by
   have:xs=[]:=by cases ts <;> simpa [cXs] using h.symm
   subst this; trivial
 | [],o :: os,xs,h=>by simp[cXs] at h
 | t :: ts,o :: os,xs,h=>by
   simp only[cXs] at h
   split at h
   case h_2=>cases h
   rename_i x xs' h1 h2
   injection h with h
   subst h
   exact⟨y0s h1,s06 h2⟩
def cO (T:List (Nat×TI)) (ty:Nat):Option Operand→Option (Option X)
 | none=>some none
 | some o=>(cX T ty o).map some
theorem r17 {T:List (Nat×TI)} {ty:Nat} {o:Option Operand} {x:Option X} (h:cO T ty o=some x):XO x o:=by
 cases o with
 | none=>simp only[cO,Option.some.injEq] at h; subst h; trivial
 | some o=>
   simp only[cO] at h
   cases hx:cX T ty o with
   | none=>rw[hx] at h; simp at h
   | some y=>
     rw[hx] at h
     simp only[Option.map_some,Option.some.injEq] at h
     subst h
     exact y0s hx
def s1v (g:Nat→Option (List C)):List Field→Option (List C)
 | []=>some []
 | f :: fs=>match g f.type,s1v g fs with
   | some a,some b=>some (a ++ b)
   | _,_=>none
def zC (T:List (Nat×TI)):Nat→Nat→Option (List C)
 | 0,_=>none
 | d+1,t=>match look T t with
   | some ti=>match ti.d with
     | .int k=>some [.int k 0]
     | .bool=>some [.bool false]
     | .string=>some [.str ⟨#[]⟩]
     | .pointer _=>some [.np]
     | .slice el=>match look T el with
       | some ei=>some [.ar true el ei.n []]
       | none=>none
     | .struct fs=>s1v (zC T d) fs.toList
     | .array n e=>match zC T d e with
       | some z=>some (List.replicate n z).flatten
       | none=>none
     | _=>none
   | none=>none
def zEq:C→Value→Bool
 | .int k n,.int k' n'=>k == k' && n == n'
 | .bool b,.bool b'=>b == b'
 | .str s,.string s'=>s.data == s'.data
 | .np,.pointer none=>true
 | .ar true _ _ [],.slice none 0 0=>true
 | _,_=>false
def zEqs:List C→List Value→Bool
 | [],[]=>true
 | c :: cs,v :: vs=>zEq c v && zEqs cs vs
 | _,_=>false
theorem z2y {c:C} {v:Value} (h:zEq c v=true) (w:World) (N:Nat→Prop):repC w N c v fz:=by
 unfold zEq at h
 split at h
 ·simp only[Bool.and_eq_true,beq_iff_eq] at h; obtain⟨rfl,rfl⟩:=h; exact⟨rfl,rfl⟩
 ·simp only[beq_iff_eq] at h; subst h; exact⟨rfl,rfl⟩
 ·rename_i s s'
  simp only[beq_iff_eq] at h
  have:s=s':=by cases s; cases s'; simp only at h; rw[h]
  subst this; exact⟨rfl,rfl⟩
 ·exact⟨rfl,rfl⟩
 ·simp[repC]
 ·cases h
theorem g04: ∀{cs:List C} {vs:List Value},zEqs cs vs=true→∀(w:World) (N:Nat→Prop),z0d w N cs vs fz
 | [],[],_,w,N=>⟨rfl,rfl⟩
 | c :: cs,v :: vs,h,w,N=>by
   have h:zEq c v=true∧zEqs cs vs=true:=Bool.and_eq_true_iff.1 h
   exact⟨v,vs,fz,fz,rfl,(z0g _).symm,z2y h.1 w N,g04 h.2 w N⟩
 | [],_ :: _,h,_,_=>by cases h
 | _ :: _,[],h,_,_=>by cases h
def plL (T:List (Nat×TI)):List Field→Option (List (Nat×Nat))
 | []=>some []
 | f :: fs=>match look T f.type,plL T fs with
   | some fi,some r=>some ((f.offset,fi.n) :: r)
   | _,_=>none
def plF (T:List (Nat×TI)):TypeDesc→Option (Nat→Option (Nat×Nat))
 | .struct fs=>(plL T fs.toList).map fun l i=>l.toArray[i]?
 | .array _ el=>(look T el).map fun ei i=>some (i*ei.n,ei.n)
 | _=>none
def elT (d:TypeDesc) (i:Nat):Nat:=
 match d with
 | .struct fs=>match fs[i]? with
   | some f=>f.type
   | none=>0
 | .array _ el=>el
 | _=>0
def cPs (T:List (Nat×TI)) (d:TypeDesc) (pl:Nat→Option (Nat×Nat)):List (Nat×Operand)→Option (List (Nat×Nat×X))
 | []=>some []
 | (i,o) :: r=>match pl i,cX T (elT d i) o,cPs T d pl r with
   | some (off,n),some x,some xs=>some ((off,n,x) :: xs)
   | _,_,_=>none
def f0f:List (Nat×Operand)→Nat→Option (List Operand)
 | [],_=>some []
 | (i,o) :: r,k=>if i=k then (f0f r (k+1)).map (o :: ·) else none
structure An where
 keep:List (Nat×(List Nat×List Nat))
 fz:Bool
 mo:Bool
 rf:List (Nat×Nat)
 bs:Bool
 gf:List (Nat×Nat)
 nf:List (Nat×List Nat):=[]
 zf:List (Nat×List Nat):=[]
 fb:Bool:=false
 fa:Bool:=false
 rz:List Nat:=[]
 pb:Bool:=false
def pbT (an:An) (t:Nat):Nat:=if an.pb then t+1000000000 else t
def w1o (T:List (Nat×TI)):List Field→Nat→Option (List Bool)
 | [],_=>some []
 | f :: r,i=>if f.name = "_" then none else if f.offset=i then
     match (look T f.type).map (·.d),w1o T r (i+1) with
     | some (TypeDesc.int _),some ks=>some (false :: ks)
     | some TypeDesc.string,some ks=>some (true :: ks)
     | _,_=>none
   else none
def sqK (T:List (Nat×TI)) (t:Nat) (fs:Array Field):Option (List Bool):=
 match (look T t).map (·.q) with
 | some true=>w1o T fs.toList 0
 | _=>none
def z1d (xs:List X):List Nat→List Nat
 | []=>[]
 | j :: js=>match xs[j]? with
   | some (X.t n)=>n :: z1d xs js
   | _=>z1d xs js
def cmpI (T:List (Nat×TI)) (fs:List Nat) (an:An) (o:Oper):Option I:=
 match o.op with
 | .move x=>(cX T o.type x).map .mv
 | .assign x=>(cX T o.type x).map (fun x=>if an.fa then .asf x else .asn x)
 | .pick c a b=>match cX T 0 c,cX T o.type a,cX T o.type b with
   | some c,some a,some b=>some (.pick c a b)
   | _,_,_=>none
 | .binOp op t x y _=>match cX T t x,cX T t y with
   | some x,some y=>match op,(look T t).map (·.d) with
     | .eql,some TypeDesc.bool=>some (.beq false x y)
     | .neq,some TypeDesc.bool=>some (.beq true x y)
     | .eql,some (TypeDesc.struct fs)=>match sqK T t fs with
       | some ks=>some (.sqe false ks x y)
       | none=>some (.bin .eql x y)
     | .neq,some (TypeDesc.struct fs)=>match sqK T t fs with
       | some ks=>some (.sqe true ks x y)
       | none=>some (.bin .neq x y)
     | op,_=>some (.bin op x y)
   | _,_=>none
 | .unOp .not _ x=>(cX T 0 x).map .not
 | .unOp .neg _ x=>(cX T 0 x).map .neg
 | .convert s d x=>match look T s,look T d,cX T s x with
   | some si,some di,some x=>match si.d,di.d with
     | .int _,.int k=>some (.conv k x)
     | .slice e,.string=>match (look T e).map (·.d) with
       | some (TypeDesc.int .u8)=>some (.b2s x)
       | _=>none
     | _,_=>none
   | _,_,_=>none
 | .extract (.tmp n) i=>some (.ext i (.t n))
 | .field t x f=>match look T t,cX T t x with
   | some ti,some x=>match ti.d with
     | .struct fs=>match fs[f]? with
       | some fl=>match look T fl.type with
         | some fi=>if aggD fi.d || fi.n == 1 then some (.fld fl.offset fi.n (aggD fi.d) x) else none
         | none=>none
       | none=>none
     | _=>none
   | _,_=>none
 | .index t x i=>match look T t,cX T t x,cX T 0 i with
   | some ti,some x,some i=>match ti.d with
     | .string=>some (.idx x i)
     | .array m el=>match look T el with
       | some ei=>if aggD ei.d || ei.n == 1 then some (.idxa m ei.n (aggD ei.d) x i) else none
       | none=>none
     | _=>none
   | _,_,_=>none
 | .nilCheck x=>(cX T 0 x).map .nil
 | .makeFunc (.func f) first captured=>match first.toList with
   | []=>(cXs T (List.replicate captured.toList.length 0) captured.toList).map (.mkf f)
   | _=>none
 | .build t parts=>match look T t,zC T 12 t with
   | some ti,some z=>match plF T ti.d with
     | some pl=>match cPs T ti.d pl parts.toList with
       | some ps=>if zEqs z ti.z.cells.toList then some (.bld an.fb z ps) else none
       | none=>none
     | none=>none
   | _,_=>none
 | .fieldAddr t x f=>match look T t,cX T 0 x with
   | some ti,some x=>match ti.d with
     | .struct fs=>match fs[f]? with
       | some fl=>match look T fl.type with
         | some fi=>if fi.n≠0 then some (.fad fl.offset x) else none
         | none=>none
       | none=>none
     | _=>none
   | _,_=>none
 | .indexAddr t x i=>match look T t,cX T t x,cX T 0 i with
   | some ti,some x,some i=>match ti.d with
     | .slice el=>match look T el with
       | some ei=>some (.iad ei.n x i)
       | none=>none
     | .array m el=>match look T el with
       | some ei=>some (.iaa m ei.n x i)
       | none=>none
     | _=>none
   | _,_,_=>none
 | .load t p=>match look T t,cX T 0 p with
   | some ti,some p=>if aggD ti.d || ti.n == 1 then some (.ld ti.n (aggD ti.d) p) else none
   | _,_=>none
 | .slice t x lo hi none=>match look T t,cX T t x,cO T 0 lo,cO T 0 hi with
   | some ti,some x,some lo,some hi=>match ti.d with
     | .slice el=>match look T el with
       | some ei=>some (.slc ei.n x lo hi)
       | none=>none
     | .string=>some (.sls x lo hi)
     | _=>none
   | _,_,_,_=>none
 | .box t x=>match look T t,cX T t x with
   | some ti,some x=>if an.bs then some (.boxs ti.n x) else if tyOf (pbT an t)=t then some (.box (pbT an t) ti.n x) else none
   | _,_=>none
 | .alloc t=>match look T t,zC T 12 t with
   | some ti,some z=>if (zEqs z ti.z.cells.toList && z.length == ti.n)=true∧tyOf (pbT an t)=t then some (.alc (pbT an t) ti.n z) else none
   | _,_=>none
 | .store t p v=>match look T t,cX T 0 p,cX T t v with
   | some ti,some p,some v=>some (.st ti.n an.fz p v)
   | _,_,_=>none
 | .buildSlice t n parts=>match look T t with
   | some ti=>match ti.d with
     | .slice el=>match look T el,f0f parts.toList 0 with
       | some ei,some os=>match cXs T (List.replicate os.length el) os with
         | some xs=>if os.length=n∧n≤4096∧ei.n≤4096∧ei.z.cells.size=ei.n then some (.bls el ei.n an.fz xs) else none
         | none=>none
       | _,_=>none
     | _=>none
   | none=>none
 | .makeSlice t l c=>match look T t,cX T 0 l,cX T 0 c with
   | some ti,some l,some c=>match ti.d with
     | .slice el=>match look T el,zC T 12 el with
       | some ei,some z=>if zEqs z ei.z.cells.toList && z.length == ei.n && decide (ei.b≤16384) && decide (0<ei.n) then some (.mks el ei.n ei.b z l c) else none
       | _,_=>none
     | _=>none
   | _,_,_=>none
 | .call c=>match c.callee with
   | .value (.func f)=>match cXs T c.argTypes.toList c.args.toList with
     | some xs=>if fs.contains f then (match look an.rf f with
        | some p=>match look an.zf f with
          | some js=>(xs[p]?).map fun x=> .callzr f (z1d xs js) x xs
          | none=>(xs[p]?).map fun x=>if an.rz.contains f then .callrf f x xs else if p == 0 && (look an.gf f).isSome then .callro f x xs else .callr f x xs
        | none=>match look an.gf f with
          | some k=>some (.callo f k xs)
          | none=>match look an.nf f with
            | some js=>some (.calln f js xs)
            | none=>match look an.zf f with
              | some js=>some (.callz f (z1d xs js) xs)
              | none=>some (if an.rz.contains f then .callf f xs else .call f xs)) else none
     | none=>none
   | .value (.tmp t)=>(cXs T c.argTypes.toList c.args.toList).map fun xs=> .callv (.t t) xs
   | .builtin .len=>match c.args.toList,c.argTypes.toList with
     | [x],[t]=>match look T t,cX T t x with
       | some ti,some x=>match ti.d with
         | .slice _=>some (.len x)
         | .string=>some (.lns x)
         | _=>none
       | _,_=>none
     | _,_=>none
   | .builtin .max=>match c.args.toList with
     | [x,y]=>match cX T 0 x,cX T 0 y with
       | some x,some y=>some (.mnx true x y)
       | _,_=>none
     | _=>none
   | .builtin .min=>match c.args.toList with
     | [x,y]=>match cX T 0 x,cX T 0 y with
       | some x,some y=>some (.mnx false x y)
       | _,_=>none
     | _=>none
   | .builtin .append=>match c.args.toList,c.argTypes.toList with
     | [s,x],[t,t']=>match look T t,cX T t s,cX T t x with
       | some ti,some s,some x=>match ti.d with
         | .slice el=>match look T el with
           | some ei=>if t=t'∧ei.b≤16384∧ei.z.cells.size=ei.n∧0<ei.n then some (.app el ei.n ei.b an.fz s x) else none
           | none=>none
         | _=>none
       | _,_,_=>none
     | _,_=>none
   | _=>none
 | _=>none
end Go.Am
namespace Go.Am
section
variable {P:Program} {T:List (Nat×TI)} {fs:List Nat} {an:An}
theorem y0a {α β:Type} {f:α→β} {x:Option α} {y:β} (h:x.map f=some y): ∃a,x=some a∧f a=y:=by
 cases x with
 | none=>simp at h
 | some a=>exact⟨a,rfl,by simpa using h⟩
theorem f0g: ∀{ps:List (Nat×Operand)} {k:Nat} {os:List Operand},f0f ps k=some os→ps=(os.zipIdx k).map fun (o,i)=>(i,o)
 | [],k,os,h=>by
   simp only[f0f,Option.some.injEq] at h
   subst h; rfl
 | (i,o) :: r,k,os,h=>by
   simp only[f0f] at h
   split at h
   case isFalse=>cases h
   rename_i hik
   subst hik
   obtain⟨os',h1,rfl⟩:=y0a h
   rw[f0g h1]
   simp[List.zipIdx_cons]
theorem t0y {t:Nat} {ti:TI} (h:TOK1 P t ti):s00 P t ti.n:=by
 obtain⟨i,h1,h2,_⟩:=t00 h
 exact⟨i,h1,h2⟩
theorem b0b {t:Nat} {ti:TI} (h:TOK1 P t ti):z1i P t (aggD ti.d):=⟨ti.d,h.1,rfl⟩
theorem o17 (hT:TOK P T): ∀{fs:List Field} {ps:List (Nat×Nat)},plL T fs=some ps→fs.mapM (fun f=>(P.info? f.type).map fun i=>(f.offset,i.size))=some ps
 | [],ps,h=>by simp only[plL,Option.some.injEq] at h; subst h; rfl
 | f :: fs,ps,h=>by
   simp only[plL] at h
   split at h
   case h_2=>cases h
   rename_i fi r hf hr
   injection h with h; subst h
   obtain⟨i,h1,h2,_⟩:=t00 (z0r hT hf)
   simp[List.mapM_cons,h1,h2,o17 hT hr]
theorem i0s (hT:TOK P T): ∀{fs:List Field} {i:Nat} {ks:List Bool},w1o T fs i=some ks→z1k P fs ks i
 | [],i,ks,h=>by simp only[w1o,Option.some.injEq] at h; subst h; trivial
 | f :: r,i,ks,h=>by
   simp only[w1o] at h
   split at h
   ·cases h
   rename_i hn
   split at h
   case isFalse=>cases h
   rename_i hoff
   split at h
   ·rename_i k ks' hd hr
    injection h with h; subst h
    obtain⟨ti,h3,h4⟩:=y0a hd
    exact⟨hn,hoff,by simpa using ⟨k,by rw[(z0r hT h3).1,h4]⟩,i0s hT hr⟩
   ·rename_i ks' hd hr
    injection h with h; subst h
    obtain⟨ti,h3,h4⟩:=y0a hd
    exact⟨hn,hoff,by simpa using (by rw[(z0r hT h3).1,h4]),i0s hT hr⟩
   ·cases h
theorem o1e (hT:TOK P T) {t:Nat} {fs:Array Field} {ks:List Bool} (h:sqK T t fs=some ks):z1k P fs.toList ks 0∧P.stoodInHeld t=false∧P.eqGuardType P.depth t=false:=by
 unfold sqK at h
 split at h
 ·rename_i hq
  obtain⟨ti,h3,h4⟩:=y0a hq
  exact⟨i0s hT h,(z0r hT h3).2.2 h4⟩
 ·cases h
theorem a1s (hT:TOK P T) {t:Nat} {d:TypeDesc} {pl:Nat→Option (Nat×Nat)} (hu:P.underlying t=some d) (h:plF T d=some pl):x1l P t pl:=by
 unfold plF at h
 split at h
 ·rename_i fs
  obtain⟨l,h1,rfl⟩:=y0a h
  exact .inl ⟨fs,l,hu,o17 hT h1,fun _=>rfl⟩
 ·rename_i n el
  obtain⟨ei,h1,rfl⟩:=y0a h
  exact .inr ⟨n,el,ei.n,hu,t0y (z0r hT h1),fun _=>rfl⟩
 ·cases h
theorem p1r {d:TypeDesc} {pl:Nat→Option (Nat×Nat)}: ∀{ps:List (Nat×Operand)} {ps':List (Nat×Nat×X)},cPs T d pl ps=some ps'→PL pl ps' ps
 | [],ps',h=>by simp only[cPs,Option.some.injEq] at h; subst h; trivial
 | (i,o) :: r,ps',h=>by
   simp only[cPs] at h
   split at h
   case h_2=>cases h
   rename_i off n x xs h1 h2 h3
   injection h with h; subst h
   exact⟨h1,y0s h2,p1r h3⟩
theorem n14 (hT:TOK P T) (hF:FOK P fs) {o:Oper} {i:I} (h:cmpI T fs an o=some i):IsV P o.op i∨IsM P o.op i∨IsC P o.op i:=by
 obtain⟨dst,op,ty,pos,after,guard⟩:=o
 simp only
 cases op with
 | move x=>
   simp only[cmpI] at h
   obtain⟨y,h1,rfl⟩:=y0a h
   exact .inl (.mv (y0s h1))
 | assign x=>
   simp only[cmpI] at h
   obtain⟨y,h1,rfl⟩:=y0a h
   split
   ·exact .inr (.inl (.asf (y0s h1)))
   ·exact .inr (.inl (.asn (y0s h1)))
 | pick c a b=>
   simp only[cmpI] at h
   split at h
   case h_2=>cases h
   rename_i h1 h2 h3
   injection h with h; subst h
   exact .inl (.pick (y0s h1) (y0s h2) (y0s h3))
 | binOp op t x y yt=>
   simp only[cmpI] at h
   split at h
   case h_2=>cases h
   rename_i h1 h2
   split at h
   ·rename_i ht
    injection h with h; subst h
    obtain⟨ti,h3,h4⟩:=y0a ht
    exact .inl (.beq (y0s h1) (y0s h2) (by rw[(z0r hT h3).1,h4]))
   ·rename_i ht
    injection h with h; subst h
    obtain⟨ti,h3,h4⟩:=y0a ht
    exact .inl (.bne (y0s h1) (y0s h2) (by rw[(z0r hT h3).1,h4]))
   ·rename_i ht
    obtain⟨ti,h3,h4⟩:=y0a ht
    split at h
    ·rename_i ks hks
     injection h with h; subst h
     obtain⟨q1,q2,q3⟩:=o1e hT hks
     exact .inl (.sqe (ne:=false) (y0s h1) (y0s h2) (by rw[(z0r hT h3).1,h4]) q1 q2 q3)
    ·injection h with h; subst h
     exact .inl (.bin (y0s h1) (y0s h2))
   ·rename_i ht
    obtain⟨ti,h3,h4⟩:=y0a ht
    split at h
    ·rename_i ks hks
     injection h with h; subst h
     obtain⟨q1,q2,q3⟩:=o1e hT hks
     exact .inl (.sqe (ne:=true) (y0s h1) (y0s h2) (by rw[(z0r hT h3).1,h4]) q1 q2 q3)
    ·injection h with h; subst h
     exact .inl (.bin (y0s h1) (y0s h2))
   ·injection h with h; subst h
    exact .inl (.bin (y0s h1) (y0s h2))
 | unOp op t x=>
   cases op with
   | not=>
     simp only[cmpI] at h
     obtain⟨y,h1,rfl⟩:=y0a h
     exact .inl (.not (y0s h1))
   | neg=>
     simp only[cmpI] at h
     obtain⟨y,h1,rfl⟩:=y0a h
     exact .inl (.neg (y0s h1))
   | _=>simp[cmpI] at h
 | convert s d x=>
   simp only[cmpI] at h
   split at h
   case h_2=>cases h
   rename_i si di x' hs hd hx
   split at h
   case h_3=>cases h
   ·rename_i k' k hsd hdd
    injection h with h; subst h
    have h1:=(z0r hT hs).1; have h2:=(z0r hT hd).1
    rw[hsd] at h1; rw[hdd] at h2
    exact .inl (.conv (y0s hx) h1 h2)
   ·rename_i e hsd hdd
    split at h
    case h_2=>cases h
    rename_i he
    injection h with h; subst h
    have h1:=(z0r hT hs).1; have h2:=(z0r hT hd).1
    rw[hsd] at h1; rw[hdd] at h2
    cases hl:look T e with
    | none=>rw[hl] at he; simp at he
    | some te=>
      have h3:=(z0r hT hl).1
      rw[hl] at he
      simp only[Option.map_some,Option.some.injEq] at he
      rw[he] at h3
      exact .inl (.b2s (y0s hx) h1 h3 h2)
 | extract x n=>
   cases x with
   | tmp t=>
     simp only[cmpI,Option.some.injEq] at h
     subst h
     exact .inl (.ext rfl)
   | _=>simp[cmpI] at h
 | field t x f=>
   simp only[cmpI] at h
   split at h
   case h_2=>cases h
   rename_i ti x' ht hx
   split at h
   case h_2=>cases h
   rename_i fl0 hd
   split at h
   case h_2=>cases h
   rename_i fl hfl
   split at h
   case h_2=>cases h
   rename_i fi hfi
   split at h
   case isFalse=>cases h
   rename_i hc
   injection h with h; subst h
   have h1:=(z0r hT ht).1
   rw[hd] at h1
   refine .inl (.fld (y0s hx) h1 hfl (t0y (z0r hT hfi)) (b0b (z0r hT hfi)) fun ha=>?_)
   simpa [ha] using hc
 | index t x i=>
   simp only[cmpI] at h
   split at h
   case h_2=>cases h
   rename_i ti x' i' ht hx hi
   have h1:=(z0r hT ht).1
   split at h
   ·rename_i hd
    injection h with h; subst h
    rw[hd] at h1
    exact .inl (.idx (y0s hx) (y0s hi) h1)
   ·rename_i m el hd
    rw[hd] at h1
    split at h
    case h_2=>cases h
    rename_i ei hei
    split at h
    case isFalse=>cases h
    rename_i hc
    injection h with h; subst h
    exact .inl (.idxa (y0s hx) (y0s hi) h1 (t0y (z0r hT hei)) (b0b (z0r hT hei)) (fun ha=>by simpa [ha] using hc))
   ·cases h
 | nilCheck x=>
   simp only[cmpI] at h
   obtain⟨y,h1,rfl⟩:=y0a h
   exact .inl (.nil (y0s h1))
 | build t parts=>
   simp only[cmpI] at h
   split at h
   case h_2=>cases h
   rename_i ti z ht hz
   split at h
   case h_2=>cases h
   rename_i pl hpl
   split at h
   case h_2=>cases h
   rename_i ps hps
   split at h
   case isFalse=>cases h
   rename_i hc
   injection h with h; subst h
   obtain⟨i,k1,_,_,k4⟩:=t00 (z0r hT ht)
   have:parts=parts.toList.toArray:=by simp
   rw[this]
   exact .inr (.inl (.bld k1 k4 (g04 hc) (a1s hT (z0r hT ht).1 hpl) (p1r hps)))
 | fieldAddr t x f=>
   simp only[cmpI] at h
   split at h
   case h_2=>cases h
   rename_i ti x' ht hx
   split at h
   case h_2=>cases h
   rename_i fl0 hd
   split at h
   case h_2=>cases h
   rename_i fl hfl
   split at h
   case h_2=>cases h
   rename_i fi hfi
   split at h
   case isFalse=>cases h
   rename_i hc
   injection h with h; subst h
   have h1:=(z0r hT ht).1
   rw[hd] at h1
   exact .inl (.fad (y0s hx) h1 hfl (t0y (z0r hT hfi)) hc)
 | indexAddr t x i=>
   simp only[cmpI] at h
   split at h
   case h_2=>cases h
   rename_i ti x' i' ht hx hi
   split at h
   case h_3=>cases h
   ·rename_i el hd
    split at h
    case h_2=>cases h
    rename_i ei hei
    injection h with h; subst h
    have h1:=(z0r hT ht).1
    rw[hd] at h1
    exact .inl (.iad (y0s hx) (y0s hi) h1 (t0y (z0r hT hei)))
   ·rename_i m el hd
    split at h
    case h_2=>cases h
    rename_i ei hei
    injection h with h; subst h
    have h1:=(z0r hT ht).1
    rw[hd] at h1
    exact .inl (.iaa (y0s hx) (y0s hi) h1 (t0y (z0r hT hei)))
 | makeFunc fn first captured=>
   cases fn with
   | func f=>
     simp only[cmpI] at h
     split at h
     case h_2=>cases h
     rename_i hfirst
     obtain⟨xs,hxs,rfl⟩:=y0a h
     have hf:first = #[]:=by apply Array.ext'; rw[hfirst]
     subst hf
     have:=IsV.mkf (P:=P) (f:=f) (s06 hxs)
     rw[Array.toArray_toList] at this
     exact .inl this
   | _=>simp[cmpI] at h
 | load t p=>
   simp only[cmpI] at h
   split at h
   case h_2=>cases h
   rename_i ti p' ht hp
   split at h
   case isFalse=>cases h
   rename_i hc
   injection h with h; subst h
   refine .inl (.ld (y0s hp) (t0y (z0r hT ht)) (b0b (z0r hT ht)) fun ha=>?_)
   simpa [ha] using hc
 | slice t x lo hi mx=>
   cases mx with
   | some m=>simp[cmpI] at h
   | none=>
     simp only[cmpI] at h
     split at h
     case h_2=>cases h
     rename_i ti x' lo' hi' ht hx hlo hhi
     have h1:=(z0r hT ht).1
     split at h
     ·rename_i el hd
      split at h
      case h_2=>cases h
      rename_i ei hei
      injection h with h; subst h
      rw[hd] at h1
      exact .inl (.slcS (y0s hx) (r17 hlo) (r17 hhi) h1 (t0y (z0r hT hei)))
     ·rename_i hd
      injection h with h; subst h
      rw[hd] at h1
      exact .inl (.slcT (y0s hx) (r17 hlo) (r17 hhi) h1)
     ·cases h
 | box t x=>
   simp only[cmpI] at h
   split at h
   case h_2=>cases h
   rename_i ti x' ht hx
   split at h
   ·injection h with h; subst h
    exact .inr (.inl (.boxs (y0s hx)))
   ·split at h
    case isFalse=>cases h
    rename_i hty
    injection h with h; subst h
    have:IsM P (.box (tyOf (pbT an t)) x) (.box (pbT an t) ti.n x'):= .box (y0s hx)
    rw[hty] at this
    exact .inr (.inl this)
 | alloc t=>
   simp only[cmpI] at h
   split at h
   case h_2=>cases h
   rename_i ti z ht hz
   split at h
   case isFalse=>cases h
   rename_i hc
   injection h with h; subst h
   obtain⟨hc,hty⟩:=hc
   simp only[Bool.and_eq_true,beq_iff_eq] at hc
   obtain⟨i,h1,_,_,h4⟩:=t00 (z0r hT ht)
   have:IsM P (.alloc (tyOf (pbT an t))) (.alc (pbT an t) ti.n z):= .alc (by rw[hty]; exact h1) h4 hc.2 (g04 hc.1)
   rw[hty] at this
   exact .inr (.inl this)
 | store t p v=>
   simp only[cmpI] at h
   split at h
   case h_2=>cases h
   rename_i ti p' v' ht hp hv
   injection h with h; subst h
   exact .inr (.inl (.st (y0s hp) (y0s hv) (t0y (z0r hT ht))))
 | buildSlice t n parts=>
   simp only[cmpI] at h
   split at h
   case h_2=>cases h
   rename_i ti ht
   split at h
   case h_2=>cases h
   rename_i el hd
   split at h
   case h_2=>cases h
   rename_i ei os hei hps
   split at h
   case h_2=>cases h
   rename_i xs hxs
   split at h
   case isFalse=>cases h
   rename_i hc
   obtain⟨rfl,hc2,hc3,hc4⟩:=hc
   injection h with h; subst h
   have h1:=(z0r hT ht).1
   rw[hd] at h1
   obtain⟨i,k1,k2,_,k4⟩:=t00 (z0r hT hei)
   have hp:parts=(os.zipIdx.map fun (o,i)=>(i,o)).toArray:=by
    apply Array.ext'
    rw[f0g hps]
   rw[hp]
   exact .inr (.inl (.bls h1 k1 k4 k2 hc4 hc2 hc3 (s06 hxs)))
 | makeSlice t l c=>
   simp only[cmpI] at h
   split at h
   case h_2=>cases h
   rename_i ti l' c' ht hl hc'
   split at h
   case h_2=>cases h
   rename_i el hd
   split at h
   case h_2=>cases h
   rename_i ei z hei hz
   split at h
   case isFalse=>cases h
   rename_i hc
   injection h with h; subst h
   simp only[Bool.and_eq_true,beq_iff_eq,decide_eq_true_eq] at hc
   have h1:=(z0r hT ht).1
   rw[hd] at h1
   obtain⟨i,k1,k2,k3,k4⟩:=t00 (z0r hT hei)
   exact .inr (.inl (.mks (y0s hl) (y0s hc') h1 k1 k4 k2 k3 hc.1.2 hc.1.1.2 hc.2 (g04 hc.1.1.1)))
 | call c=>
   simp only[cmpI] at h
   split at h
   ·rename_i f hcal
    split at h
    case h_2=>cases h
    rename_i xs hxs
    split at h
    case isFalse=>cases h
    rename_i hf
    have h1:=d01 hF (by simpa using hf:f∈fs)
    unfold FOK1 at h1
    obtain⟨fn,h2,h3⟩:=y0a h1
    simp only[Prod.mk.injEq] at h3
    split at h
    ·split at h
     ·obtain⟨x,_,rfl⟩:=y0a h
      exact .inr (.inr (.callzr hcal (os:=c.args.toList) (by simp) h2 h3.1 h3.2 (s06 hxs)))
     ·obtain⟨x,_,rfl⟩:=y0a h
      split
      ·exact .inr (.inr (.callrf hcal (os:=c.args.toList) (by simp) h2 h3.1 h3.2 (s06 hxs)))
      ·split
       ·exact .inr (.inr (.callro hcal (os:=c.args.toList) (by simp) h2 h3.1 h3.2 (s06 hxs)))
       ·exact .inr (.inr (.callr hcal (os:=c.args.toList) (by simp) h2 h3.1 h3.2 (s06 hxs)))
    ·split at h
     ·injection h with h; subst h
      exact .inr (.inr (.callo hcal (os:=c.args.toList) (by simp) h2 h3.1 h3.2 (s06 hxs)))
     ·split at h
      ·injection h with h; subst h
       exact .inr (.inr (.calln hcal (os:=c.args.toList) (by simp) h2 h3.1 h3.2 (s06 hxs)))
      ·split at h
       ·injection h with h; subst h
        exact .inr (.inr (.callz hcal (os:=c.args.toList) (by simp) h2 h3.1 h3.2 (s06 hxs)))
       ·injection h with h; subst h
        split
        ·exact .inr (.inr (.callf hcal (os:=c.args.toList) (by simp) h2 h3.1 h3.2 (s06 hxs)))
        ·exact .inr (.inr (.call hcal (os:=c.args.toList) (by simp) h2 h3.1 h3.2 (s06 hxs)))
   ·rename_i t hcal
    obtain⟨xs,hxs,rfl⟩:=y0a h
    exact .inr (.inr (.callv hcal rfl (os:=c.args.toList) (by simp) (s06 hxs)))
   ·rename_i hcal
    split at h
    case h_2=>cases h
    rename_i x t hargs hts
    split at h
    case h_2=>cases h
    rename_i ti x' ht hx
    have h1:=(z0r hT ht).1
    have ha:c.args = #[x]:=by apply Array.ext'; rw[hargs]
    have hb:c.argTypes = #[t]:=by apply Array.ext'; rw[hts]
    obtain⟨callee,args,argTypes⟩:=c
    simp only at hcal ha hb
    subst hcal; subst ha; subst hb
    split at h
    ·rename_i el hd
     injection h with h; subst h
     rw[hd] at h1
     exact .inl (.lenS (y0s hx) h1)
    ·rename_i hd
     injection h with h; subst h
     rw[hd] at h1
     exact .inl (.lenT (y0s hx) h1)
    ·cases h
   ·rename_i hcal
    split at h
    case h_2=>cases h
    rename_i x y hargs
    split at h
    case h_2=>cases h
    rename_i hx hy
    injection h with h; subst h
    have ha:c.args = #[x,y]:=by apply Array.ext'; rw[hargs]
    obtain⟨callee,args,argTypes⟩:=c
    simp only at hcal ha
    subst hcal; subst ha
    exact .inl (.max (y0s hx) (y0s hy))
   ·rename_i hcal
    split at h
    case h_2=>cases h
    rename_i x y hargs
    split at h
    case h_2=>cases h
    rename_i hx hy
    injection h with h; subst h
    have ha:c.args = #[x,y]:=by apply Array.ext'; rw[hargs]
    obtain⟨callee,args,argTypes⟩:=c
    simp only at hcal ha
    subst hcal; subst ha
    exact .inl (.min (y0s hx) (y0s hy))
   ·rename_i hcal
    split at h
    case h_2=>cases h
    rename_i s x t t' hargs hts
    split at h
    case h_2=>cases h
    rename_i ti s' x' ht hs hx
    split at h
    case h_2=>cases h
    rename_i el hd
    split at h
    case h_2=>cases h
    rename_i ei hei
    split at h
    case isFalse=>cases h
    rename_i hc
    obtain⟨rfl,hc2,hc3,hc4⟩:=hc
    injection h with h; subst h
    have h1:=(z0r hT ht).1
    rw[hd] at h1
    obtain⟨i,k1,k2,k3,k4⟩:=t00 (z0r hT hei)
    have ha:c.args = #[s,x]:=by apply Array.ext'; rw[hargs]
    have hb:c.argTypes = #[t,t]:=by apply Array.ext'; rw[hts]
    obtain⟨callee,args,argTypes⟩:=c
    simp only at hcal ha hb
    subst hcal; subst ha; subst hb
    exact .inr (.inl (.app (y0s hs) (y0s hx) h1 k1 k4 k2 k3 hc2 hc3 hc4))
   ·cases h
 | _=>simp[cmpI] at h
end
def cmpG (ops:Array Oper):Option (Nat×Bool)→Option (Option (Nat×Bool))
 | none=>some none
 | some (j,want)=>match (ops[j]?).bind (·.dst) with
   | some t=>some (some (t,want))
   | none=>none
def cmpD (n:Nat):Option Nat→Bool
 | none=>true
 | some d=>decide (d<n) && decide (d<1000)
def cmpL (T:List (Nat×TI)) (fs:List Nat) (an:An) (n:Nat) (ops:Array Oper):List Oper→Option (List Ins)
 | []=>some []
 | o :: os=>match cmpI T fs an o,cmpG ops o.guard,cmpL T fs an n ops os with
   | some i,some g,some is=>if cmpD n o.dst then some (⟨o.dst,g,i⟩ :: is) else none
   | _,_,_=>none
def a1u:I→Bool
 | .asn .. | .bld .. | .box .. | .boxs .. | .alc .. | .st .. | .bls .. | .mks .. | .app .. | .callr .. | .callo .. | .calln .. | .callz .. | .callzr .. | .callf .. | .callrf .. | .callro .. | .asf .. =>false
 | _=>true
def f1j:List Ins→Nat
 | []=>0
 | i :: is=>if a1u i.i then f1j is+1 else 0
def s1l (ops:Array Oper):Nat→Nat→Option Nat
 | 0,m=>if Region.lexTailB .any ops m then some m else none
 | f+1,m=>if Region.lexTailB .any ops m then some m else if m=0 then none else s1l ops f (m - 1)
def a08 (ops:Array Oper) (is:List Ins):Nat→Bool
 | 0=>false
 | f+1=>j0d ops is f || a08 ops is f
theorem f0s {ops:Array Oper} {is:List Ins}: ∀{f:Nat},a08 ops is f=true→∃m,j0d ops is m=true
 | 0,h=>by cases h
 | f+1,h=>by
   simp only[a08,Bool.or_eq_true] at h
   rcases h with h | h
   ·exact⟨f,h⟩
   ·exact f0s h
def drwN (ops:Array Oper) (is:List Ins):Option Nat:=
 let h:=f1j is
 if h=is.length∧Region.lexB .any ops=true then some h else match s1l ops h h with
  | some m=>some m
  | none=>if a08 ops is ops.size=true then some 0 else none
theorem z19 {ops:Array Oper} {m':Nat}: ∀{f m:Nat},s1l ops f m=some m'→Region.lexTailB .any ops m'=true
 | 0,m,h=>by
   simp only[s1l] at h
   split at h
   ·rename_i hh; injection h with h; subst h; exact hh
   ·cases h
 | f+1,m,h=>by
   simp only[s1l] at h
   split at h
   ·rename_i hh; injection h with h; subst h; exact hh
   ·split at h
    ·cases h
    ·exact z19 h
theorem n19 {ops:Array Oper} {is:List Ins} {m:Nat} (h:drwN ops is=some m):(Region.lexB .any ops=true∧is.length≤m)∨Region.lexTailB .any ops m=true∨(m=0∧∃m',j0d ops is m'=true):=by
 unfold drwN at h
 simp only at h
 split at h
 ·rename_i hh; injection h with h; subst h; exact .inl ⟨hh.2,by omega⟩
 ·split at h
  ·rename_i m2 hm
   injection h with h; subst h
   exact .inr (.inl (z19 hm))
  ·split at h
   ·rename_i hh; injection h with h; exact .inr (.inr ⟨h.symm,f0s hh⟩)
   ·cases h
def gsOf (is:List Ins) (m:Nat):List Nat:=(List.range m).filter fun i=>((is[i]?).map fun x=>(p0a x).isSome).getD false
def qsOf (is:List Ins) (m:Nat):List Nat:=(List.range m).filter fun i=>!((is[i]?).map fun x=>(p0a x).isSome).getD false
def w1w (ops:Array Oper) (is:List Ins) (m:Nat):Option (Nat×List Nat×List Nat):=
 if ((qsOf is m).all fun i=>((is[i]?).map fun x=>s09 x.i).getD false)=true then (if grpB ops is m (qsOf is m) (gsOf is m)=true then some (m,qsOf is m,gsOf is m) else none) else none
theorem w1x {ops:Array Oper} {is:List Ins} {m' m:Nat} {qs gs:List Nat} (h:w1w ops is m'=some (m,qs,gs)):grpB ops is m qs gs=true:=by
 unfold w1w at h
 split at h
 case isFalse=>cases h
 generalize qsOf is m'=q at h
 generalize gsOf is m'=g at h
 by_cases hb:grpB ops is m' q g=true
 ·rw[if_pos hb] at h
  injection h with h
  injection h with h1 h2
  injection h2 with h3 h4
  rw[← h1,← h3,← h4]; exact hb
 ·rw[if_neg hb] at h; cases h
def b0t (t:Nat→Option (Nat×List Nat×List Nat)):List Nat→Option (Nat×List Nat×List Nat)
 | []=>none
 | m :: ms=>match t m with
   | some r=>some r
   | none=>b0t t ms
theorem g0o {t:Nat→Option (Nat×List Nat×List Nat)} {r:Nat×List Nat×List Nat}: ∀ms:List Nat,b0t t ms=some r→∃m,t m=some r
 | [],h=>by cases h
 | m' :: ms,h=>by
   unfold b0t at h
   cases hr:t m' with
   | some x=>rw[hr] at h; exact⟨m',hr.trans h⟩
   | none=>rw[hr] at h; exact g0o ms h
def grpN (ops:Array Oper) (is:List Ins) (ms:List Nat):Option (Nat×List Nat×List Nat):=b0t (w1w ops is) ms
theorem w1v {ops:Array Oper} {is:List Ins} {m:Nat} {qs gs:List Nat} {ms:List Nat} (h:grpN ops is ms=some (m,qs,gs)):grpB ops is m qs gs=true:=by
 obtain⟨m',h'⟩:=g0o ms h
 exact w1x h'
def sctT (T:List (Nat×TI)):Nat→Nat→Bool
 | 0,_=>false
 | f+1,t=>match (look T t).map (·.d) with
   | some (TypeDesc.int _)=>true
   | some TypeDesc.bool=>true
   | some TypeDesc.string=>true
   | some (TypeDesc.struct fs)=>fs.toList.all fun fl=>sctT T f fl.type
   | _=>false
def wantG (T:List (Nat×TI)) (ops:Array Oper):Bool:=
 ops.toList.any fun o=>match o.op with
  | .call c=>match c.callee with
    | .value _=>!sctT T 6 o.type
    | _=>false
  | _=>false
def y1q (ops:Array Oper) (is:List Ins) (lvs:List Nat):Nat→OS→List Nat
 | 0,_=>[]
 | f+1,s=>match (Region.ready .any ops s.listed).findSome? (fun k=>(v03 ops is lvs ops.size s k).map fun s'=>(k,s')) with
   | some (k,s')=>k :: y1q ops is lvs f s'
   | none=>[]
def a0e (ops:Array Oper) (is:List Ins):Option (List Nat):=
 if j0h ops is (y1q ops is (lvGo is []) ops.size (ord0 ops))=true then some (y1q ops is (lvGo is []) ops.size (ord0 ops)) else none
theorem e01 {ops:Array Oper} {is:List Ins} {ks:List Nat} (h:a0e ops is=some ks):j0h ops is ks=true:=by
 unfold a0e at h
 generalize y1q ops is (lvGo is []) ops.size (ord0 ops)=q at h
 split at h
 ·rename_i hh; injection h with h; rw[← h]; exact hh
 ·cases h
def o1v (T:List (Nat×TI)) (ops:Array Oper) (m:Nat):Bool:=
 (ops.toList.take m).any fun o=>match o.op with
   | .call c=>match c.callee with
     | .value _=>!sctT T 6 o.type
     | _=>false
   | _=>false
def h0e (T:List (Nat×TI)) (ops:Array Oper) (is:List Ins):Option (List Nat):=
 match drwN ops is with
 | some m=>if o1v T ops m=true then a0e ops is else none
 | none=>none
theorem c0f {T:List (Nat×TI)} {ops:Array Oper} {is:List Ins} {ks:List Nat} (h:h0e T ops is=some ks):j0h ops is ks=true:=by
 unfold h0e at h
 split at h
 ·split at h
  ·exact e01 h
  ·cases h
 ·cases h
def n1b (ops:Array Oper) (is:List Ins) (lvs:List Nat) (fl:Nat):Nat→OS→List Nat×OS
 | 0,s=>([],s)
 | f+1,s=>match (Region.ready .any ops s.listed).findSome? (fun k=>if k == fl then none else (v03 ops is lvs fl s k).map fun s'=>(k,s')) with
   | some (k,s')=>match n1b ops is lvs fl f s' with
     | (ks,s1)=>(k :: ks,s1)
   | none=>([],s)
def fltAt (is:List Ins):Option (Nat×Nat):=
 (List.range is.length).findSome? (β:=Nat×Nat) fun i=>match (is[i]?:Option Ins) with
   | some { d:=some d,gd:=none,i:=I.alc _ _ _ }=>some (i,d)
   | _=>none
def w1p (ops:Array Oper) (is:List Ins) (lvs:List Nat) (fl:Nat) (s:OS):List Nat:=
 match v03 ops is lvs ops.size s fl with
 | some s'=>y1q ops is lvs ops.size s'
 | none=>[]
def w1q (ops:Array Oper) (is:List Ins):Option (Nat×Nat×List Nat×List Nat):=
 match fltAt is with
 | some (fl,d)=>match n1b ops is (lvGo is []) fl ops.size (ord0 ops) with
   | (pre,s)=>if g0p ops is fl d pre (w1p ops is (lvGo is []) fl s)=true then some (fl,d,pre,w1p ops is (lvGo is []) fl s) else none
 | none=>none
theorem w1r {ops:Array Oper} {is:List Ins} {fl d:Nat} {pre post:List Nat} (h:w1q ops is=some (fl,d,pre,post)):g0p ops is fl d pre post=true:=by
 unfold w1q at h
 split at h
 case h_2=>cases h
 generalize n1b ops is _ _ _ _=g at h
 obtain⟨pre',s⟩:=g
 simp only at h
 split at h
 ·rename_i hh
  simp only[Option.some.injEq,Prod.mk.injEq] at h
  obtain⟨rfl,rfl,rfl,rfl⟩:=h
  exact hh
 ·cases h
def apGo (ops:Array Oper) (is:List Ins) (lvs ap:List Nat):Nat→OS→List Nat×List Nat
 | 0,_=>([],[])
 | f+1,s=>match (Region.ready .any ops s.listed).findSome? (fun k=>(b0i ops is lvs ap s k).map fun (c,s')=>(k,c,s')) with
   | some (k,c,s')=>match apGo ops is lvs ap f s' with
     | (ks,cs)=>(k :: ks,c :: cs)
   | none=>([],[])
def apOf (ops:Array Oper) (is:List Ins):List Nat:=
 (List.range is.length).filter fun j=>((is[j]?).map fun x=>apI x.i && x.gd.isNone).getD false && (List.range is.length).any fun k=>((is[k]?).map fun x=>ldI x.i).getD false && !(w1k ops k).contains j && !(w1k ops j).contains k
def x1r (is:List Ins):Nat→Nat→Nat
 | 0,q=>q
 | f+1,q=>match is.findSome? (fun (y:Ins)=>match y with
    | { d:=some d,gd:=_,i:=I.fad _ (.t r) }=>if d=q then some r else none
    | _=>none) with
   | some r=>x1r is f r
   | none=>q
def r11 (is:List Ins) (k:Nat):Option Nat:=
 match is[k]? with
  | some { d:=_,gd:=_,i:=I.ld _ _ (.t q) }=>some (x1r is is.length q)
  | _=>none
def m01 (is:List Ins):List Nat→List Nat→List Nat→List Nat×List Nat
 | k :: ks,c :: cs,ps=>if c=2 then (match r11 is k with
   | some p=>if ps.contains p then (match m01 is ks cs ps with
      | (ps',cs')=>(ps',(ps.idxOf p+2) :: cs'))
     else (match m01 is ks cs (ps ++ [p]) with
      | (ps',cs')=>(ps',(ps.length+2) :: cs'))
   | none=>(ps,[]))
   else (match m01 is ks cs ps with
    | (ps',cs')=>(ps',c :: cs'))
 | _,_,ps=>(ps,[])
def o1s (ops:Array Oper) (is:List Ins):Option (List Nat×List Nat×List Nat×List Nat):=
 match apGo ops is (lvGo is []) (apOf ops is) ops.size (ord0 ops) with
 | (ks,cs)=>match m01 is ks cs [] with
   | (ps,cs')=>if x1q ops is ps (apOf ops is) ks cs'=true then some (ps,apOf ops is,ks,cs') else none
theorem r12 {ops:Array Oper} {is:List Ins} {ps ap ks cs:List Nat} (h:o1s ops is=some (ps,ap,ks,cs)):x1q ops is ps ap ks cs=true:=by
 unfold o1s at h
 generalize apGo ops is _ _ _ _=g at h
 obtain⟨ks',cs'⟩:=g
 simp only at h
 generalize m01 is ks' cs' []=g2 at h
 obtain⟨ps',cs2⟩:=g2
 simp only at h
 split at h
 ·rename_i hh
  simp only[Option.some.injEq,Prod.mk.injEq] at h
  obtain⟨rfl,rfl,rfl,rfl⟩:=h
  exact hh
 ·cases h
def u1s (ops:Array Oper) (is:List Ins) (lvs:List Nat):Nat→OS→List Nat×OS
 | 0,s=>([],s)
 | f+1,s=>match (Region.ready .any ops s.listed).findSome? (fun k=>(v03 ops is lvs ops.size s k).map fun s'=>(k,s')) with
   | some (k,s')=>match u1s ops is lvs f s' with
     | (ks,s1)=>(k :: ks,s1)
   | none=>([],s)
def p1l (ops:Array Oper) (is:List Ins) (lvs:List Nat) (s:OS) (k:Nat):List Nat:=
 match (is[k]?).bind (fun x=>s0k lvs s k x) with
 | some s'=>y1q ops is lvs ops.size s'
 | none=>[]
def s1n (ops:Array Oper) (is:List Ins):Option (Nat×Nat×List Nat×List Nat×List Nat):=
 match u1s ops is (lvGo is []) ops.size (ord0 ops) with
 | (pre,s)=>match Region.ready .any ops s.listed with
   | [k1,k2]=>if e0w ops is k1 k2 (p1l ops is (lvGo is []) s k1) (p1l ops is (lvGo is []) s k2) pre=true then some (k1,k2,p1l ops is (lvGo is []) s k1,p1l ops is (lvGo is []) s k2,pre) else none
   | _=>none
theorem s1o {ops:Array Oper} {is:List Ins} {k1 k2:Nat} {r1 r2 pre:List Nat} (h:s1n ops is=some (k1,k2,r1,r2,pre)):e0w ops is k1 k2 r1 r2 pre=true:=by
 unfold s1n at h
 generalize u1s ops is _ _ _=g at h
 obtain⟨pre',s⟩:=g
 simp only at h
 split at h
 ·split at h
  ·rename_i hh
   simp only[Option.some.injEq,Prod.mk.injEq] at h
   obtain⟨rfl,rfl,rfl,rfl,rfl⟩:=h
   exact hh
  ·cases h
 ·cases h
def f1d (T:List (Nat×TI)) (ops:Array Oper) (is:List Ins):Option K:=
 match (if wantG T ops then grpN ops is (List.range is.length) else none) with
 | some (m,qs,gs)=>some (.grp none m qs gs is)
 | none=>match h0e T ops is with
  | some ks=>some (.drw none 0 (y0g is ks))
  | none=>match drwN ops is with
   | some m=>some (.drw none m is)
   | none=>match grpN ops is (List.range is.length) with
     | some (m,qs,gs)=>some (.grp none m qs gs is)
     | none=>match a0e ops is with
       | some ks=>some (.drw none 0 (y0g is ks))
       | none=>match w1q ops is with
         | some (fl,d,pre,post)=>some (.flt none d (y0g is pre) (y0g is (fl :: post)))
         | none=>match o1s ops is with
           | some (p,_,ks,cs)=>some (.apd none p cs (y0g is ks))
           | none=>match s1n ops is with
             | some (k1,k2,r1,r2,pre)=>some (.two none (y0g is pre) (y0g is (k1 :: r1)) (y0g is (k2 :: r2)))
             | none=>none
def cmpC (T:List (Nat×TI)) (fs:List Nat) (an:An) (n:Nat):Code→Option K
 | .skip=>some .skip
 | .seq a b=>match cmpC T fs an n a,cmpC T fs an n b with
   | some a,some b=>some (.seq a b)
   | _,_=>none
 | .region id ops draw=>match cmpL T fs an n ops ops.toList with
   | some is=>if draw then (if an.mo then f1d T ops is else none) else some (.reg (look an.keep id) is)
   | none=>some .bad
 | .cond o a b=>match cX T 0 o,cmpC T fs an n a,cmpC T fs an n b with
   | some x,some a,some b=>some (.cond x a b)
   | _,_,_=>none
 | .block id c=>(cmpC T fs an n c).map (.block id)
 | .loop c=>(cmpC T fs an n c).map (.loop none)
 | .exit id=>some (.exit id)
 | .ret=>some .ret
 | _=>some .bad
section
variable {P:Program} {T:List (Nat×TI)} {fs:List Nat} {n:Nat} {an:An}
theorem t0s (hT:TOK P T) (hF:FOK P fs) {ops:Array Oper}: ∀{os:List Oper} {is:List Ins},cmpL T fs an n ops os=some is→InsL P n ops os is
 | [],is,h=>by
   simp only[cmpL,Option.some.injEq] at h
   subst h; trivial
 | o :: os,is,h=>by
   simp only[cmpL] at h
   split at h
   case h_2=>cases h
   rename_i i g is' hi hg hl
   split at h
   case isFalse=>cases h
   rename_i hd
   injection h with h; subst h
   refine⟨⟨rfl,fun k hk=>?_,?_,n14 hT hF hi⟩,t0s hT hF hl⟩
   ·rw[hk] at hd
    simp only[cmpD,Bool.and_eq_true,decide_eq_true_eq] at hd
    exact hd
   ·cases hgd:o.guard with
    | none=>
      rw[hgd] at hg
      simp only[cmpG,Option.some.injEq] at hg
      exact .inl ⟨rfl,hg.symm⟩
    | some jw=>
      obtain⟨j,want⟩:=jw
      rw[hgd] at hg
      simp only[cmpG] at hg
      split at hg
      case h_2=>cases hg
      rename_i t ht
      injection hg with hg
      exact .inr ⟨j,want,t,rfl,hg.symm,ht⟩
theorem n13 (hT:TOK P T) (hF:FOK P fs) (hmo:an.mo=true→P.follows .mixedOrders=true): ∀{c:Code} {k:K},cmpC T fs an n c=some k→CK P n c k:=by
 intro c
 induction c with
 | skip=>intro k h; simp only[cmpC,Option.some.injEq] at h; subst h; exact .skip
 | seq a b ih1 ih2=>
   intro k h
   simp only[cmpC] at h
   split at h
   case h_2=>cases h
   rename_i ha hb
   injection h with h; subst h
   exact .seq (ih1 ha) (ih2 hb)
 | region id ops draw=>
   intro k h
   simp only[cmpC] at h
   split at h
   case h_2=>injection h with h; subst h; exact .bad
   rename_i is hl
   split at h
   ·rename_i hd
    subst hd
    split at h
    case isFalse=>cases h
    rename_i hmo'
    unfold f1d at h
    split at h
    ·rename_i m qs gs hg
     injection h with h; subst h
     split at hg
     ·exact .grp (t0s hT hF hl) (hmo hmo') (w1v hg)
     ·cases hg
    ·split at h
     ·rename_i ks hk
      injection h with h; subst h
      exact .ord (t0s hT hF hl) (hmo hmo') (c0f hk)
     ·split at h
      ·rename_i m h1
       injection h with h; subst h
       exact .drw (t0s hT hF hl) (hmo hmo') (n19 h1)
      ·split at h
       ·rename_i m qs gs hg
        injection h with h; subst h
        exact .grp (t0s hT hF hl) (hmo hmo') (w1v hg)
       ·split at h
        ·rename_i ks hk
         injection h with h; subst h
         exact .ord (t0s hT hF hl) (hmo hmo') (e01 hk)
        ·split at h
         ·rename_i hk
          injection h with h; subst h
          exact .flt (t0s hT hF hl) (hmo hmo') (w1r hk)
         ·split at h
          ·rename_i hk
           injection h with h; subst h
           exact .apd (t0s hT hF hl) (hmo hmo') (r12 hk)
          ·split at h
           ·rename_i hk
            injection h with h; subst h
            exact .two (t0s hT hF hl) (hmo hmo') (s1o hk)
           ·cases h
   ·rename_i hd
    injection h with h; subst h
    have:draw=false:=by simpa using hd
    subst this
    exact .reg (t0s hT hF hl)
 | cond o a b ih1 ih2=>
   intro k h
   simp only[cmpC] at h
   split at h
   case h_2=>cases h
   rename_i hx ha hb
   injection h with h; subst h
   exact .cond (y0s hx) (ih1 ha) (ih2 hb)
 | block id c ih=>
   intro k h
   simp only[cmpC] at h
   obtain⟨k',h1,rfl⟩:=y0a h
   exact .block (ih h1)
 | loop c ih=>
   intro k h
   simp only[cmpC] at h
   obtain⟨k',h1,rfl⟩:=y0a h
   exact .loop (ih h1)
 | exit id=>intro k h; simp only[cmpC,Option.some.injEq] at h; subst h; exact .exit
 | ret=>intro k h; simp only[cmpC,Option.some.injEq] at h; subst h; exact .ret
 | _=>intro k h; simp only[cmpC,Option.some.injEq] at h; subst h; exact .bad
end
def cmpR (T:List (Nat×TI)):List ResultVar→Option (List RV)
 | []=>some []
 | .tmp t :: r=>(cmpR T r).map (.t t :: ·)
 | .cell a t :: r=>match look T t,cmpR T r with
   | some ti,some rs=>if aggD ti.d || ti.n == 1 then some (.c a ti.n (aggD ti.d) :: rs) else none
   | _,_=>none
theorem d0l {P:Program} {T:List (Nat×TI)} (hT:TOK P T): ∀{ros:List ResultVar} {rs:List RV},cmpR T ros=some rs→RL P rs ros
 | [],rs,h=>by simp only[cmpR,Option.some.injEq] at h; subst h; trivial
 | .tmp t :: r,rs,h=>by
   simp only[cmpR] at h
   obtain⟨rs',h1,rfl⟩:=y0a h
   exact⟨rfl,d0l hT h1⟩
 | .cell a t :: r,rs,h=>by
   simp only[cmpR] at h
   split at h
   case h_2=>cases h
   rename_i ti rs' ht hr
   split at h
   case isFalse=>cases h
   rename_i hc
   injection h with h; subst h
   exact⟨⟨rfl,t0y (z0r hT ht),b0b (z0r hT ht),fun ha=>by simpa [ha] using hc⟩,d0l hT hr⟩
def cmpF (T:List (Nat×TI)) (fs:List Nat) (an:An) (fn:Func):Option (List RV×K):=
 match fn.body with
 | some c=>match cmpC T fs an fn.ntmps c,cmpR T fn.results.toList with
   | some k,some rs=>some (rs,k)
   | _,_=>none
 | none=>none
end Go.Am
namespace Go.Am
def mkT (P:Program):List Nat→List (Nat×TI)
 | []=>[]
 | t :: r=>match P.underlying t,(P.info? t).map (fun i=>(i.zero,i.size,i.bytes)) with
   | some d,some (some z,n,b)=>(t,⟨d,n,b,z,!(P.stoodInHeld t) && !(P.eqGuardType P.depth t)⟩) :: mkT P r
   | _,_=>mkT P r
theorem p0n (P:Program): ∀ts:List Nat,TOK P (mkT P ts)
 | []=>trivial
 | t :: r=>by
   simp only[mkT]
   split
   ·rename_i d z n b h1 h2
    exact⟨⟨h1,h2,fun hq=>by simpa using hq⟩,p0n P r⟩
   ·exact p0n P r
def mkF (P:Program):List Nat→List Nat
 | []=>[]
 | f :: r=>match (P.funcs[f]?).map (fun fn=>(fn.name == "runtime.NumGoroutine",fn.body.isNone)) with
   | some (false,false)=>f :: mkF P r
   | _=>mkF P r
theorem q0d (P:Program): ∀fs:List Nat,FOK P (mkF P fs)
 | []=>trivial
 | f :: r=>by
   simp only[mkF]
   split
   ·rename_i h; exact⟨h,q0d P r⟩
   ·exact q0d P r
def x0b:K→K
 | .skip=> .skip
 | .seq a b=> .seq (x0b a) (x0b b)
 | .reg _ is=> .reg none is
 | .drw _ m is=> .drw none m is
 | .grp _ m qs gs is=> .grp none m qs gs is
 | .flt _ d pre is=> .flt none d pre is
 | .apd _ p cs is=> .apd none p cs is
 | .two _ pre is1 is2=> .two none pre is1 is2
 | .cond x a b=> .cond x (x0b a) (x0b b)
 | .block id k=> .block id (x0b k)
 | .loop _ k=> .loop none (x0b k)
 | .exit id=> .exit id
 | .ret=> .ret
 | .bad=> .bad
theorem s1w {P:Program} {n:Nat}: ∀(k':K) {c:Code} {k:K},CK P n c k→x0b k=x0b k'→CK P n c k':=by
 intro k'
 induction k' with
 | skip=>intro c k hc h; cases hc <;> simp only[x0b] at h <;> first | exact .skip | cases h
 | seq a b ih1 ih2=>
   intro c k hc h
   cases hc <;> simp only[x0b] at h <;> first | (cases h; done) | skip
   rename_i h1 h2
   injection h with h3 h4
   exact .seq (ih1 h1 h3) (ih2 h2 h4)
 | reg kp is=>
   intro c k hc h
   cases hc <;> simp only[x0b] at h <;> first | (cases h; done) | skip
   rename_i h1
   injection h with h3 h4
   subst h4
   exact .reg h1
 | drw kp m is=>
   intro c k hc h
   cases hc <;> simp only[x0b] at h <;> first | (cases h; done) | skip
   case drw h1 h2 h3=>
    injection h with h4 h5 h6
    subst h5
    subst h6
    exact .drw h1 h2 h3
   case ord h1 h2 h3=>
    injection h with h3 h4 h5
    subst h4
    subst h5
    exact .ord h1 h2 (by assumption)
 | grp kp m qs gs is=>
   intro c k hc h
   cases hc <;> simp only[x0b] at h <;> first | (cases h; done) | skip
   rename_i h1 h2 h3
   injection h with h4 h5 h6 h7 h8
   subst h5
   subst h6
   subst h7
   subst h8
   exact .grp h1 h2 h3
 | flt kp d pre is=>
   intro c k hc h
   cases hc <;> simp only[x0b] at h <;> first | (cases h; done) | skip
   rename_i h1 h2 h3
   injection h with h4 h5 h6 h7
   subst h5
   subst h6
   subst h7
   exact .flt h1 h2 h3
 | apd kp p cs is=>
   intro c k hc h
   cases hc <;> simp only[x0b] at h <;> first | (cases h; done) | skip
   rename_i h1 h2 h3
   injection h with h4 h5 h6 h7
   subst h5
   subst h6
   subst h7
   exact .apd h1 h2 h3
 | two kp pre is1 is2=>
   intro c k hc h
   cases hc <;> simp only[x0b] at h <;> first | (cases h; done) | skip
   rename_i h1 h2 h3
   injection h with h4 h5 h6 h7
   subst h5
   subst h6
   subst h7
   exact .two h1 h2 h3
 | cond x a b ih1 ih2=>
   intro c k hc h
   cases hc <;> simp only[x0b] at h <;> first | (cases h; done) | skip
   rename_i h0 h1 h2
   injection h with h3 h4 h5
   subst h3
   exact .cond h0 (ih1 h1 h4) (ih2 h2 h5)
 | block id a ih=>
   intro c k hc h
   cases hc <;> simp only[x0b] at h <;> first | (cases h; done) | skip
   rename_i h1
   injection h with h3 h4
   subst h3
   exact .block (ih h1 h4)
 | loop kp a ih=>
   intro c k hc h
   cases hc <;> simp only[x0b] at h <;> first | (cases h; done) | skip
   rename_i h1
   injection h with h3 h4
   exact .loop (ih h1 h4)
 | exit id=>
   intro c k hc h
   cases hc <;> simp only[x0b] at h <;> first | (cases h; done) | skip
   injection h with h; subst h; exact .exit
 | ret=>intro c k hc h; cases hc <;> simp only[x0b] at h <;> first | exact .ret | cases h
 | bad=>intro c k hc h; exact .bad
def cmpS (T:List (Nat×TI)) (fs:List Nat) (an:An) (fn:Option Func):Option (Nat×List RV×K):=
 match fn with
 | some fn=>(cmpF T fs an fn).map fun (rs,k)=>(fn.ntmps,rs,x0b k)
 | none=>none
theorem o0a {P:Program} {T:List (Nat×TI)} {fs:List Nat} (hT:TOK P T) (hF:FOK P fs) (an:An) (hmo:an.mo=true→P.follows .mixedOrders=true) {f:FuncId} {n:Nat} {rs:List RV} {k:K} {args:List A} {H:List (Nat×Obj)} {R:A→List (Nat×Obj)→Prop}
 (hc:cmpS T fs an (P.funcs[f]?)=some (n,rs,x0b k)) (hn:args.length≤n) (hn2:args.length≤1000) (h:awp P k (t0f rs R) (o0b args H)):CallsA P f args H R:=by
 cases hf:P.funcs[f]? with
 | none=>rw[hf] at hc; cases hc
 | some fn=>
   rw[hf] at hc
   simp only[cmpS] at hc
   obtain⟨⟨rs',k'⟩,h1,h2⟩:=y0a hc
   simp only[Prod.mk.injEq] at h2
   obtain⟨rfl,rfl,hk⟩:=h2
   unfold cmpF at h1
   split at h1
   case h_2=>cases h1
   rename_i c hb
   split at h1
   case h_2=>cases h1
   rename_i k1 rs1 hk1 hr1
   simp only[Option.some.injEq,Prod.mk.injEq] at h1
   obtain⟨rfl,rfl⟩:=h1
   exact g0j hf hb (s1w k (n13 hT hF hmo hk1) hk) (by simp) (d0l hT hr1) hn hn2 h
end Go.Am
namespace Go.Am
def seqQ (P:Program) (b:K) (Q:Ex→St→Prop):Ex→St→Prop:=fun e σ=>match e with
 | .n=>awp P b Q σ
 | e=>Q e σ
def blkQ (id:Nat) (Q:Ex→St→Prop):Ex→St→Prop:=fun e σ=>match e with
 | .x i=>if i=id then Q .n σ else Q (.x i) σ
 | e=>Q e σ
def u1c (J:Nat→St→Prop) (n:Nat) (keep:Option (List Nat×List Nat)) (Q:Ex→St→Prop):Ex→St→Prop:=fun e σ=>match e with
 | .n=>∃m,m<n∧J m (u0p keep σ)
 | e=>Q e σ
def f0x (Q:Ex→St→Prop):St→Prop:=Q .n
section
variable {P:Program} {a b:K} {Q:Ex→St→Prop} {σ:St}
@[simp] theorem seqQ_n:seqQ P b Q .n σ=awp P b Q σ:=rfl
@[simp] theorem seqQ_x {i:Nat}:seqQ P b Q (.x i) σ=Q (.x i) σ:=rfl
@[simp] theorem seqQ_r:seqQ P b Q .r σ=Q .r σ:=rfl
@[simp] theorem blkQ_n {id:Nat}:blkQ id Q .n σ=Q .n σ:=rfl
@[simp] theorem blkQ_x {id i:Nat}:blkQ id Q (.x i) σ=if i=id then Q .n σ else Q (.x i) σ:=rfl
@[simp] theorem blkQ_r {id:Nat}:blkQ id Q .r σ=Q .r σ:=rfl
@[simp] theorem loopQ_n {J:Nat→St→Prop} {n:Nat} {keep:Option (List Nat×List Nat)}:u1c J n keep Q .n σ = ∃m,m<n∧J m (u0p keep σ):=rfl
@[simp] theorem loopQ_x {J:Nat→St→Prop} {n:Nat} {keep:Option (List Nat×List Nat)} {i:Nat}:u1c J n keep Q (.x i) σ=Q (.x i) σ:=rfl
@[simp] theorem loopQ_r {J:Nat→St→Prop} {n:Nat} {keep:Option (List Nat×List Nat)}:u1c J n keep Q .r σ=Q .r σ:=rfl
@[simp] theorem normQ_ap:f0x Q σ=Q .n σ:=rfl
@[simp] theorem awp_skip:awp P .skip Q σ=Q .n σ:=rfl
@[simp] theorem awp_seq:awp P (.seq a b) Q σ=awp P a (seqQ P b Q) σ:=by
  simp only[awp]; congr 1
@[simp] theorem f13 {id:Nat}:awp P (.block id a) Q σ=awp P a (blkQ id Q) σ:=by
  simp only[awp]; congr 1
@[simp] theorem awp_exit {id:Nat}:awp P (.exit id) Q σ=Q (.x id) σ:=rfl
@[simp] theorem awp_ret:awp P .ret Q σ=Q .r σ:=rfl
@[simp] theorem awp_reg {is:List Ins} {kp:Option (List Nat×List Nat)}:awp P (.reg kp is) Q σ=y0y P is (f0x Q) (u0p kp σ):=rfl
theorem z04 {keep:Option (List Nat×List Nat)} (J:Nat→St→Prop) (n:Nat) (h0:J n (u0p keep σ)) (h: ∀n σ,J n σ→awp P a (u1c J n keep Q) σ):awp P (.loop keep a) Q σ:=by
 refine⟨J,n,h0,fun n σ hj=>?_⟩
 have:=h n σ hj
 have e:u1c J n keep Q=fun e σ'=>match e with
  | .n=>∃m,m<n∧J m (u0p keep σ')
  | e=>Q e σ':=by funext e σ'; cases e <;> rfl
 rw[e] at this
 exact this
def w1i (P:Program) (a b:K) (Q:Ex→St→Prop) (σ:St) (t:Bool):Prop:=if t then awp P a Q σ else awp P b Q σ
@[simp] theorem condK_t:w1i P a b Q σ true=awp P a Q σ:=rfl
@[simp] theorem condK_f:w1i P a b Q σ false=awp P b Q σ:=rfl
def n17 (P:Program) (a b:K) (Q:Ex→St→Prop) (σ:St):Option A→Prop
 | some (.one (.bool t))=>w1i P a b Q σ t
 | _=>False
@[simp] theorem condA_b {t:Bool}:n17 P a b Q σ (some (.one (.bool t)))=w1i P a b Q σ t:=rfl
@[simp] theorem awp_cond {x:X}:awp P (.cond x a b) Q σ=n17 P a b Q σ (ev σ x):=by
  simp only[awp,n17,w1i] <;> (split <;> simp_all)
@[simp] theorem z27 {K:St→Prop}:y0y P [] K σ=K σ:=rfl
def grdK (P:Program) (d:Option Nat) (i:I) (want:Bool) (K:St→Prop) (σ:St) (b:Bool):Prop:=if b=want then iwp0 P d i K σ else K (setT σ d (.tup []))
@[simp] theorem grdK_tt {d:Option Nat} {i:I} {K:St→Prop}:grdK P d i true K σ true=iwp0 P d i K σ:=rfl
@[simp] theorem grdK_ff {d:Option Nat} {i:I} {K:St→Prop}:grdK P d i false K σ false=iwp0 P d i K σ:=rfl
@[simp] theorem grdK_tf {d:Option Nat} {i:I} {K:St→Prop}:grdK P d i true K σ false=K (setT σ d (.tup [])):=rfl
@[simp] theorem grdK_ft {d:Option Nat} {i:I} {K:St→Prop}:grdK P d i false K σ true=K (setT σ d (.tup [])):=rfl
def grdA (P:Program) (d:Option Nat) (i:I) (want:Bool) (K:St→Prop) (σ:St):Option A→Prop
 | some (.one (.bool b))=>grdK P d i want K σ b
 | some (.tup [])=>K (setT σ d (.tup []))
 | _=>False
@[simp] theorem grdA_u {d:Option Nat} {i:I} {want:Bool} {K:St→Prop}:grdA P d i want K σ (some (.tup []))=K (setT σ d (.tup [])):=rfl
@[simp] theorem grdA_b {d:Option Nat} {i:I} {want:Bool} {K:St→Prop} {t:Bool}:grdA P d i want K σ (some (.one (.bool t)))=grdK P d i want K σ t:=rfl
@[simp] theorem z28 {d:Option Nat} {i:I} {is:List Ins} {K:St→Prop}:y0y P (⟨d,none,i⟩ :: is) K σ=iwp0 P d i (y0y P is K) σ:=rfl
@[simp] theorem z26 {d:Option Nat} {t:Nat} {want:Bool} {i:I} {is:List Ins} {K:St→Prop}:y0y P (⟨d,some (t,want),i⟩ :: is) K σ=grdA P d i want (y0y P is K) σ (look σ.tm t):=by
  simp only[y0y,iwp,grdA,grdK] <;> (split <;> simp_all)
def vK (K:St→Prop) (d:Option Nat):Option (A×St)→Prop
 | some (a,σ1)=>K (setT σ1 d a)
 | none=>False
@[simp] theorem vK_some {K:St→Prop} {d:Option Nat} {a:A} {σ1:St}:vK K d (some (a,σ1))=K (setT σ1 d a):=rfl
def mK (K:St→Prop):Option St→Prop
 | some σ1=>K σ1
 | none=>False
@[simp] theorem mK_some {K:St→Prop} {σ1:St}:mK K (some σ1)=K σ1:=rfl
def isM:I→Bool
 | .asn .. | .bld .. | .box .. | .boxs .. | .alc .. | .st .. | .bls .. | .mks .. | .app .. | .asf .. =>true
 | _=>false
theorem c0q {i:I} (h:isM i=true):runV i σ=none:=by
 cases i <;> first | rfl | cases h
theorem c0p {i:I} {d:Option Nat} (h:isM i=false):runM d i σ=none:=by
 cases i <;> first | rfl | cases h
theorem u0e {d:Option Nat} {i:I} {K:St→Prop} (h:isM i=false) (h2:j0a i=false):iwp0 P d i K σ=vK K d (runV i σ):=by
 rw[v0e h2,c0p h]
 cases runV i σ with
 | none=>rfl
 | some p=>obtain⟨a,s⟩:=p; rfl
theorem k0k {d:Option Nat} {i:I} {K:St→Prop} (h:isM i=true):iwp0 P d i K σ=mK K (runM d i σ):=by
 have h2:j0a i=false:=by cases i <;> first | rfl | cases h
 rw[v0e h2,c0q h]
 cases runM d i σ with
 | none=>rfl
 | some p=>rfl
variable {d:Option Nat} {K:St→Prop}
@[simp] theorem iwp_mv {x:X}:iwp0 P d (.mv x) K σ=vK K d (v06 σ x):=u0e rfl rfl
@[simp] theorem iwp_als {x:X}:iwp0 P d (.als x) K σ=vK K d (v06 σ x):=u0e rfl rfl
@[simp] theorem iwp_pick {c x y:X}:iwp0 P d (.pick c x y) K σ=vK K d (runV (.pick c x y) σ):=u0e rfl rfl
@[simp] theorem iwp_bin {o:BinOp} {x y:X}:iwp0 P d (.bin o x y) K σ=vK K d (runV (.bin o x y) σ):=u0e rfl rfl
@[simp] theorem iwp_beq {ne:Bool} {x y:X}:iwp0 P d (.beq ne x y) K σ=vK K d (runV (.beq ne x y) σ):=u0e rfl rfl
@[simp] theorem iwp_not {x:X}:iwp0 P d (.not x) K σ=vK K d (runV (.not x) σ):=u0e rfl rfl
@[simp] theorem iwp_neg {x:X}:iwp0 P d (.neg x) K σ=vK K d (runV (.neg x) σ):=u0e rfl rfl
@[simp] theorem iwp_conv {k:IntKind} {x:X}:iwp0 P d (.conv k x) K σ=vK K d (runV (.conv k x) σ):=u0e rfl rfl
@[simp] theorem iwp_sqe {ne:Bool} {ks:List Bool} {x y:X}:iwp0 P d (.sqe ne ks x y) K σ=vK K d (runV (.sqe ne ks x y) σ):=u0e rfl rfl
@[simp] theorem iwp_b2s {x:X}:iwp0 P d (.b2s x) K σ=vK K d (runV (.b2s x) σ):=u0e rfl rfl
@[simp] theorem iwp_len {x:X}:iwp0 P d (.len x) K σ=vK K d (runV (.len x) σ):=u0e rfl rfl
@[simp] theorem iwp_lns {x:X}:iwp0 P d (.lns x) K σ=vK K d (runV (.lns x) σ):=u0e rfl rfl
@[simp] theorem iwp_mnx {m:Bool} {x y:X}:iwp0 P d (.mnx m x y) K σ=vK K d (runV (.mnx m x y) σ):=u0e rfl rfl
@[simp] theorem iwp_ext {i:Nat} {x:X}:iwp0 P d (.ext i x) K σ=vK K d (runV (.ext i x) σ):=u0e rfl rfl
@[simp] theorem iwp_fld {o n:Nat} {ag:Bool} {x:X}:iwp0 P d (.fld o n ag x) K σ=vK K d (runV (.fld o n ag x) σ):=u0e rfl rfl
@[simp] theorem iwp_idx {x i:X}:iwp0 P d (.idx x i) K σ=vK K d (runV (.idx x i) σ):=u0e rfl rfl
@[simp] theorem iwp_idxa {m e:Nat} {ag:Bool} {x i:X}:iwp0 P d (.idxa m e ag x i) K σ=vK K d (runV (.idxa m e ag x i) σ):=u0e rfl rfl
@[simp] theorem iwp_mkf {f:Nat} {xs:List X}:iwp0 P d (.mkf f xs) K σ=vK K d (runV (.mkf f xs) σ):=u0e rfl rfl
@[simp] theorem iwp_iaa {m e:Nat} {x i:X}:iwp0 P d (.iaa m e x i) K σ=vK K d (runV (.iaa m e x i) σ):=u0e rfl rfl
@[simp] theorem f1n {f:Nat} {js:List Nat} {xs:List X}:iwp0 P d (.calln f js xs) K σ=d0b P d f (o0m (p11 σ xs js)) xs [] K σ:=rfl
@[simp] theorem iwp_nil {x:X}:iwp0 P d (.nil x) K σ=vK K d (runV (.nil x) σ):=u0e rfl rfl
@[simp] theorem iwp_bld {fz:Bool} {z:List C} {ps:List (Nat×Nat×X)}:iwp0 P d (.bld fz z ps) K σ=mK K (runM d (.bld fz z ps) σ):=k0k rfl
@[simp] theorem iwp_fad {o:Nat} {x:X}:iwp0 P d (.fad o x) K σ=vK K d (runV (.fad o x) σ):=u0e rfl rfl
@[simp] theorem iwp_iad {e:Nat} {x i:X}:iwp0 P d (.iad e x i) K σ=vK K d (runV (.iad e x i) σ):=u0e rfl rfl
@[simp] theorem iwp_ld {n:Nat} {ag:Bool} {x:X}:iwp0 P d (.ld n ag x) K σ=vK K d (runV (.ld n ag x) σ):=u0e rfl rfl
@[simp] theorem iwp_slc {e:Nat} {x:X} {lo hi:Option X}:iwp0 P d (.slc e x lo hi) K σ=vK K d (runV (.slc e x lo hi) σ):=u0e rfl rfl
@[simp] theorem iwp_sls {x:X} {lo hi:Option X}:iwp0 P d (.sls x lo hi) K σ=vK K d (runV (.sls x lo hi) σ):=u0e rfl rfl
@[simp] theorem iwp_asn {x:X}:iwp0 P d (.asn x) K σ=mK K (runM d (.asn x) σ):=k0k rfl
@[simp] theorem iwp_asf {x:X}:iwp0 P d (.asf x) K σ=mK K (runM d (.asf x) σ):=k0k rfl
@[simp] theorem f1r {f:Nat} {ns:List Nat} {xs:List X}:iwp0 P d (.callz f ns xs) K σ=w15 P d f ns xs K σ:=rfl
@[simp] theorem g11 {f:Nat} {ns:List Nat} {x:X} {xs:List X}:iwp0 P d (.callzr f ns x xs) K σ=g0h P d f ns x xs K σ:=rfl
@[simp] theorem h1z {f:Nat} {x:X} {xs:List X}:iwp0 P d (.callrf f x xs) K σ=i09 P d f x xs (frzK d K) (opX σ x):=rfl
@[simp] theorem g10 {f:Nat} {x:X} {xs:List X}:iwp0 P d (.callro f x xs) K σ=g0f P d f x xs K (opX σ x):=rfl
@[simp] theorem f1m {f:Nat} {xs:List X}:iwp0 P d (.callf f xs) K σ=q0i P d f xs (frzK d K) σ:=rfl
@[simp] theorem frzK_s {n:Nat}:frzK (some n) K σ=n1d K (frzT σ n):=rfl
@[simp] theorem frzK1_s:n1d K (some σ)=K σ:=rfl
@[simp] theorem f1a {f:Nat} {x:X} {xs:List X}:w16 P d f x xs K (some σ)=i09 P d f x xs K σ:=rfl
@[simp] theorem callZK_s {f:Nat} {xs:List X}:p1u P d f xs K (some σ)=q0i P d f xs K σ:=rfl
@[simp] theorem iwp_box {t e:Nat} {x:X}:iwp0 P d (.box t e x) K σ=mK K (runM d (.box t e x) σ):=k0k rfl
@[simp] theorem iwp_boxs {e:Nat} {x:X}:iwp0 P d (.boxs e x) K σ=mK K (runM d (.boxs e x) σ):=k0k rfl
@[simp] theorem iwp_alc {t e:Nat} {z:List C}:iwp0 P d (.alc t e z) K σ=mK K (runM d (.alc t e z) σ):=k0k rfl
@[simp] theorem iwp_st {n:Nat} {fz:Bool} {p v:X}:iwp0 P d (.st n fz p v) K σ=mK K (runM d (.st n fz p v) σ):=k0k rfl
@[simp] theorem iwp_bls {t e:Nat} {fz:Bool} {ps:List X}:iwp0 P d (.bls t e fz ps) K σ=mK K (runM d (.bls t e fz ps) σ):=k0k rfl
@[simp] theorem iwp_mks {t e b:Nat} {z:List C} {l c:X}:iwp0 P d (.mks t e b z l c) K σ=mK K (runM d (.mks t e b z l c) σ):=k0k rfl
@[simp] theorem iwp_app {t e b:Nat} {fz:Bool} {s x:X}:iwp0 P d (.app t e b fz s x) K σ=mK K (runM d (.app t e b fz s x) σ):=k0k rfl
@[simp] theorem f1o {f k:Nat} {xs:List X}:iwp0 P d (.callo f k xs) K σ=x1x P d f k xs K σ:=rfl
@[simp] theorem f1q {x:X} {xs:List X}:iwp0 P d (.callv x xs) K σ=k0z P d xs K σ (ev σ x):=rfl
@[simp] theorem f1p {f:Nat} {x:X} {xs:List X}:iwp0 P d (.callr f x xs) K σ=i09 P d f x xs K (opX σ x):=rfl
@[simp] theorem iwp_call {f:Nat} {xs:List X}:iwp0 P d (.call f xs) K σ=q0i P d f xs K σ:=rfl
def fpK (R:A→List (Nat×Obj)→Prop):Option (List (Bool×List C)×St)→Prop
 | some (xs,σ1)=>R (h0h xs) (outs σ1.ob)
 | none=>False
@[simp] theorem fpK_some {R:A→List (Nat×Obj)→Prop} {xs:List (Bool×List C)} {σ1:St}:fpK R (some (xs,σ1))=R (h0h xs) (outs σ1.ob):=rfl
@[simp] theorem o1p {rs:List RV} {R:A→List (Nat×Obj)→Prop} {σ:St}:t0f rs R .r σ=fpK R (p0z σ rs):=by
  simp only[t0f,fpK,eq_iff_iff]
  constructor
  ·rintro⟨xs,σ1,h,hr⟩; rw[h]; exact hr
  ·intro h; split at h
   ·rename_i h1; exact⟨_,_,h1,h⟩
   ·exact h.elim
@[simp] theorem FPost_n {rs:List RV} {R:A→List (Nat×Obj)→Prop} {σ:St}:t0f rs R .n σ=fpK R (p0z σ rs):=by
  rw[← o1p]; rfl
end
end Go.Am
namespace Go.Am
def z06 (P:Program) (f:FuncId) (args:List A) (v:A):Prop:=CallsA P f args [] fun r H=>H=[]∧r=v
def n10 (P:Program) (d:Option Nat) (f:Nat) (K:St→Prop) (b:Bool) (as:List A) (σ:St):Prop:=
 CallsA P f as [] fun r H'=>H'=[]∧(b=true→u0s r=true)∧K (setT σ d r)
def n11 (P:Program) (d:Option Nat) (f:Nat) (K:St→Prop):Option (Bool×List A×St)→Prop
 | some (b,as,σ1)=>n10 P d f K b as σ1
 | none=>False
@[simp] theorem h1x {P:Program} {d:Option Nat} {f:Nat} {K:St→Prop} {b:Bool} {as:List A} {σ:St}:n11 P d f K (some (b,as,σ))=n10 P d f K b as σ:=rfl
@[simp] theorem callS_K {P:Program} {d:Option Nat} {f:Nat} {xs:List X} {K:St→Prop} {σ:St}:q0i P d f xs K σ=n11 P d f K (u0r σ xs):=by
  unfold q0i n11
  split <;> rename_i h <;> rw[h] <;> rfl
theorem i0g {P:Program} {d:Option Nat} {f:Nat} {K:St→Prop} {b:Bool} {as:List A} {σ:St} {v:A} (h:z06 P f as v) (hn:b=true→u0s v=true) (k:K (setT σ d v)):b0n P d f K b as σ:=
 CallsA.mono h fun _ _ ⟨h1,h2⟩=>⟨h1,by rw[h2]; exact hn,by rw[h2]; exact k⟩
theorem z00 {P:Program} {d:Option Nat} {f:Nat} {K:St→Prop} {b:Bool} {as:List A} {σ:St} {v:A} (h:z06 P f as v) (hn:b=true→u0s v=true) (k:K (setT σ d v)):n10 P d f K b as σ:=
 CallsA.mono h fun _ _ ⟨h1,h2⟩=>⟨h1,by rw[h2]; exact hn,by rw[h2]; exact k⟩
theorem r00 {P:Program} {T:List (Nat×TI)} {fs:List Nat} (hT:TOK P T) (hF:FOK P fs) (an:An) (hmo:an.mo=true→P.follows .mixedOrders=true) {f:FuncId} {k:K} {r:Nat×List RV} {args:List A} {v:A}
 (hc:cmpS T fs an (P.funcs[f]?)=some (r.1,r.2,x0b k)) (hn:args.length≤r.1) (hn2:args.length≤1000) (h:awp P k (t0f r.2 fun a H=>H=[]∧a=v) (o0b args [])):z06 P f args v:=
 o0a hT hF an hmo hc hn hn2 h
end Go.Am
namespace Go.Am
section
variable {P:Program} {Q:Ex→St→Prop} {σ:St} {d:Option Nat} {K:St→Prop}
@[simp] theorem awp_grp {kp:Option (List Nat×List Nat)} {n:Nat} {qs gs:List Nat} {is:List Ins}:awp P (.grp kp n qs gs is) Q σ=qvp (y0g is qs) (fun σ0=>gwp P (dsOf (y0g is gs)) (y0g is gs) [] (y0y P (is.drop n) (f0x Q)) σ0) (u0p kp σ):=rfl
def qvK (r:List Ins) (d:Option Nat) (K:St→Prop):Option (A×St)→Prop
 | some (a,σ1)=>qvp r K (setT σ1 d a)
 | none=>False
@[simp] theorem qvK_some {r:List Ins} {d:Option Nat} {K:St→Prop} {a:A} {σ1:St}:qvK r d K (some (a,σ1))=qvp r K (setT σ1 d a):=rfl
@[simp] theorem qvp_nil {K:St→Prop}:qvp [] K σ=K σ:=rfl
@[simp] theorem qvp_cons {d:Option Nat} {i:I} {r:List Ins} {K:St→Prop}:qvp (⟨d,none,i⟩ :: r) K σ=qvK r d K (runV i σ):=by
  simp only[qvp,qvK]
  cases runV i σ with
  | none=>rfl
  | some p=>obtain⟨a,s⟩:=p; rfl
@[simp] theorem gwp_nil {dl:List Nat} {es:List (Nat×A)} {K:St→Prop}:gwp P dl [] es K σ=K { tm:=es ++ delL dl σ.tm,ob:=σ.ob }:=rfl
@[simp] theorem gwp_cons {dl:List Nat} {d f:Nat} {xs:List X} {r:List Ins} {es:List (Nat×A)} {K:St→Prop}:gwp P dl (⟨some d,none,.call f xs⟩ :: r) es K σ=gcal P f (fun v=>gwp P dl r (es ++ [(d,v)]) K σ) (k0l σ xs):=rfl
@[simp] theorem awp_flt {kp:Option (List Nat×List Nat)} {t:Nat} {pre is:List Ins}:awp P (.flt kp t pre is) Q σ=m0a P t pre (y0y P is (f0x Q)) (u0p kp σ):=rfl
@[simp] theorem awp_apd {kp:Option (List Nat×List Nat)} {ps cs:List Nat} {is:List Ins}:awp P (.apd kp ps cs is) Q σ=apwp P ps cs is (f0x Q) (u0p kp σ):=rfl
@[simp] theorem iwp_bare {d:Option Nat} {i:I} {K:St→Prop}:iwp P ⟨d,none,i⟩ K σ=iwp0 P d i K σ:=rfl
@[simp] theorem awp_two {kp:Option (List Nat×List Nat)} {pre is1 is2:List Ins}:awp P (.two kp pre is1 is2) Q σ=y0y P pre (fun σ'=>y0y P is1 (f0x Q) σ'∧y0y P is2 (f0x Q) σ') (u0p kp σ):=rfl
@[simp] theorem apwp_nil {ps:List Nat} {K:St→Prop}:apwp P ps [] [] K σ=K σ:=rfl
@[simp] theorem apwp_0 {ps cs:List Nat} {i:Ins} {is:List Ins} {K:St→Prop}:apwp P ps (0 :: cs) (i :: is) K σ=iwp P i (apwp P ps cs is K) σ:=by
  simp[apwp,g0b]
@[simp] theorem apwp_1 {ps cs:List Nat} {i:Ins} {is:List Ins} {K:St→Prop}:apwp P ps (1 :: cs) (i :: is) K σ=(g0c P i σ ps∧iwp P i (apwp P ps cs is K) σ):=by
  simp only[apwp,g0b]; rfl
@[simp] theorem apwp_2 {n q p:Nat} {ps:List Nat} {ag:Bool} {d:Option Nat} {g:Option (Nat×Bool)} {cs:List Nat} {is:List Ins} {K:St→Prop}:apwp P (p :: ps) (2 :: cs) (⟨d,g,.ld n ag (.t q)⟩ :: is) K σ=((∃id,s0z σ p=some id∧s0z σ q=some id)∧iwp P ⟨d,g,.ld n ag (.t q)⟩ (apwp P (p :: ps) cs is K) σ):=by
  simp[apwp,g0b]
@[simp] theorem apwp_3 {n q p p2:Nat} {ps:List Nat} {ag:Bool} {d:Option Nat} {g:Option (Nat×Bool)} {cs:List Nat} {is:List Ins} {K:St→Prop}:apwp P (p :: p2 :: ps) (3 :: cs) (⟨d,g,.ld n ag (.t q)⟩ :: is) K σ=((∃id,s0z σ p2=some id∧s0z σ q=some id)∧iwp P ⟨d,g,.ld n ag (.t q)⟩ (apwp P (p :: p2 :: ps) cs is K) σ):=by
  simp[apwp,g0b]
@[simp] theorem h1w {t e b:Nat} {fz:Bool} {s x:X} {d:Option Nat} {g:Option (Nat×Bool)} {p:Nat}:m00 P ⟨d,g,.app t e b fz s x⟩ σ p=(∃id,s0z σ p=some id∧x1s id (e0s σ s)=true):=by
  unfold m00
  cases s0z σ p <;> simp
@[simp] theorem g1x {n:Nat} {fz:Bool} {q v:X} {d:Option Nat} {g:Option (Nat×Bool)} {p:Nat}:m00 P ⟨d,g,.st n fz q v⟩ σ p=(∃id,s0z σ p=some id∧iwp0 P d (.st n fz q v) (fun _=>True) { tm:=σ.tm,ob:=del σ.ob id }):=by
  unfold m00
  cases s0z σ p <;> simp
@[simp] theorem f1f {t:Nat} {K:St→Prop}:m0a P t [] K σ=K σ:=rfl
@[simp] theorem f1g {t:Nat} {d:Option Nat} {i:I} {is:List Ins} {K:St→Prop}:m0a P t (⟨d,none,i⟩ :: is) K σ=(look σ.tm t=none∧iwp0 P d i (m0a P t is K) σ):=rfl
@[simp] theorem awp_drw {kp:Option (List Nat×List Nat)} {n:Nat} {is:List Ins}:awp P (.drw kp n is) Q σ=qwp P (is.take n) (y0y P (is.drop n) (f0x Q)) (u0p kp σ):=rfl
@[simp] theorem qwp_nil {K:St→Prop}:qwp P [] K σ=K σ:=rfl
@[simp] theorem qwp_one {i:I} {is:List Ins}:qwp P (⟨d,none,i⟩ :: is) K σ=iwq0 P d i (qwp P is K) σ:=rfl
def grqK (P:Program) (d:Option Nat) (i:I) (want:Bool) (K:St→Prop) (σ:St) (b:Bool):Prop:=if b=want then iwq0 P d i K σ else K (setT σ d (.tup []))
@[simp] theorem grqK_tt {i:I}:grqK P d i true K σ true=iwq0 P d i K σ:=rfl
@[simp] theorem grqK_ff {i:I}:grqK P d i false K σ false=iwq0 P d i K σ:=rfl
@[simp] theorem grqK_tf {i:I}:grqK P d i true K σ false=K (setT σ d (.tup [])):=rfl
@[simp] theorem grqK_ft {i:I}:grqK P d i false K σ true=K (setT σ d (.tup [])):=rfl
def grqA (P:Program) (d:Option Nat) (i:I) (want:Bool) (K:St→Prop) (σ:St):Option A→Prop
 | some (.one (.bool b))=>grqK P d i want K σ b
 | some (.tup [])=>K (setT σ d (.tup []))
 | _=>False
@[simp] theorem grqA_u {i:I} {want:Bool}:grqA P d i want K σ (some (.tup []))=K (setT σ d (.tup [])):=rfl
@[simp] theorem grqA_b {i:I} {want t:Bool}:grqA P d i want K σ (some (.one (.bool t)))=grqK P d i want K σ t:=rfl
@[simp] theorem qwp_grd {t:Nat} {want:Bool} {i:I} {is:List Ins}:qwp P (⟨d,some (t,want),i⟩ :: is) K σ=grqA P d i want (qwp P is K) σ (look σ.tm t):=by
  simp only[qwp,iwq,grqA,grqK] <;> (split <;> simp_all)
theorem u0f {i:I} (h:j0a i=false):iwq0 P d i K σ=vK K d (runV i σ):=by
 unfold iwq0
 split
 ·cases h
 ·cases h
 ·cases runV i σ with
  | none=>rfl
  | some p=>obtain⟨a,s⟩:=p; rfl
@[simp] theorem iwq_mv {x:X}:iwq0 P d (.mv x) K σ=vK K d (runV (.mv x) σ):=u0f rfl
@[simp] theorem iwq_als {x:X}:iwq0 P d (.als x) K σ=vK K d (runV (.als x) σ):=u0f rfl
@[simp] theorem iwq_pick {c a b:X}:iwq0 P d (.pick c a b) K σ=vK K d (runV (.pick c a b) σ):=u0f rfl
@[simp] theorem iwq_bin {o:BinOp} {x y:X}:iwq0 P d (.bin o x y) K σ=vK K d (runV (.bin o x y) σ):=u0f rfl
@[simp] theorem iwq_beq {ne:Bool} {x y:X}:iwq0 P d (.beq ne x y) K σ=vK K d (runV (.beq ne x y) σ):=u0f rfl
@[simp] theorem iwq_not {x:X}:iwq0 P d (.not x) K σ=vK K d (runV (.not x) σ):=u0f rfl
@[simp] theorem iwq_neg {x:X}:iwq0 P d (.neg x) K σ=vK K d (runV (.neg x) σ):=u0f rfl
@[simp] theorem iwq_conv {k:IntKind} {x:X}:iwq0 P d (.conv k x) K σ=vK K d (runV (.conv k x) σ):=u0f rfl
@[simp] theorem iwq_sqe {ne:Bool} {ks:List Bool} {x y:X}:iwq0 P d (.sqe ne ks x y) K σ=vK K d (runV (.sqe ne ks x y) σ):=u0f rfl
@[simp] theorem iwq_b2s {x:X}:iwq0 P d (.b2s x) K σ=vK K d (runV (.b2s x) σ):=u0f rfl
@[simp] theorem iwq_len {x:X}:iwq0 P d (.len x) K σ=vK K d (runV (.len x) σ):=u0f rfl
@[simp] theorem iwq_lns {x:X}:iwq0 P d (.lns x) K σ=vK K d (runV (.lns x) σ):=u0f rfl
@[simp] theorem iwq_mnx {m:Bool} {x y:X}:iwq0 P d (.mnx m x y) K σ=vK K d (runV (.mnx m x y) σ):=u0f rfl
@[simp] theorem iwq_ext {i:Nat} {x:X}:iwq0 P d (.ext i x) K σ=vK K d (runV (.ext i x) σ):=u0f rfl
@[simp] theorem iwq_fld {o n:Nat} {g:Bool} {x:X}:iwq0 P d (.fld o n g x) K σ=vK K d (runV (.fld o n g x) σ):=u0f rfl
@[simp] theorem iwq_idx {x i:X}:iwq0 P d (.idx x i) K σ=vK K d (runV (.idx x i) σ):=u0f rfl
@[simp] theorem iwq_idxa {m e:Nat} {g:Bool} {x i:X}:iwq0 P d (.idxa m e g x i) K σ=vK K d (runV (.idxa m e g x i) σ):=u0f rfl
@[simp] theorem iwq_mkf {f:Nat} {xs:List X}:iwq0 P d (.mkf f xs) K σ=vK K d (runV (.mkf f xs) σ):=u0f rfl
@[simp] theorem iwq_iaa {m e:Nat} {x i:X}:iwq0 P d (.iaa m e x i) K σ=vK K d (runV (.iaa m e x i) σ):=u0f rfl
@[simp] theorem iwq_nil {x:X}:iwq0 P d (.nil x) K σ=vK K d (runV (.nil x) σ):=u0f rfl
@[simp] theorem iwq_fad {o:Nat} {p:X}:iwq0 P d (.fad o p) K σ=vK K d (runV (.fad o p) σ):=u0f rfl
@[simp] theorem iwq_iad {e:Nat} {x i:X}:iwq0 P d (.iad e x i) K σ=vK K d (runV (.iad e x i) σ):=u0f rfl
@[simp] theorem iwq_ld {n:Nat} {g:Bool} {p:X}:iwq0 P d (.ld n g p) K σ=vK K d (runV (.ld n g p) σ):=u0f rfl
@[simp] theorem iwq_slc {e:Nat} {x:X} {l h:Option X}:iwq0 P d (.slc e x l h) K σ=vK K d (runV (.slc e x l h) σ):=u0f rfl
@[simp] theorem iwq_sls {x:X} {l h:Option X}:iwq0 P d (.sls x l h) K σ=vK K d (runV (.sls x l h) σ):=u0f rfl
def w10 (P:Program) (d:Option Nat) (f:Nat) (K:St→Prop):Option (Bool×List A×St)→Prop
 | some (_,as,σ1)=>∃r:A,r.scA=true∧z06 P f as r∧K (setT σ1 d r)
 | none=>False
@[simp] theorem h1y {f:Nat} {b:Bool} {as:List A} {σ1:St}:w10 P d f K (some (b,as,σ1)) = ∃r:A,r.scA=true∧z06 P f as r∧K (setT σ1 d r):=rfl
theorem p1y {f:Nat} {xs:List X}:iwqC P d f xs K σ=w10 P d f K (u0r σ xs):=by
 simp only[iwqC,w10,z06]
 try (split <;> rename_i h <;> rw[h])
@[simp] theorem iwq_call {f:Nat} {xs:List X}:iwq0 P d (.call f xs) K σ=w10 P d f K (u0r σ xs):=p1y
@[simp] theorem f1s {x:X} {xs:List X}:iwq0 P d (.callv x xs) K σ=iwqV P d xs K σ (ev σ x):=rfl
@[simp] theorem iwqV_f {f:Nat} {xs:List X}:iwqV P d xs K σ (some (.one (.fn f [])))=(FnOk P f∧w10 P d f K (u0r σ xs)):=by
  rw[← p1y]; rfl
@[simp] theorem callVK_f {f:Nat} {xs:List X}:k0z P d xs K σ (some (.one (.fn f [])))=(FnOk P f∧q0i P d f xs K σ):=by
  simp only[k0z,x0f,g0g,k0x,q0i]
  congr 1
  cases u0r σ xs with
  | none=>rfl
  | some p=>obtain⟨b,as,σ1⟩:=p; simp only[b0n,o0g,List.append_nil]
theorem i0h {f:Nat} {cap:List C} {xs:List X}:k0z P d xs K σ (some (.one (.fn f cap)))=(FnOk P f∧g0g P d f xs cap K σ (x0f (fun _ _=>true) cap)):=rfl
@[simp] theorem callVC_f {f:Nat} {cap:List C} {xs:List X}:g0g P d f xs cap K σ false=k0x P d f cap K (u0r σ xs):=rfl
@[simp] theorem callVC_t {f:Nat} {cap:List C} {xs:List X}:g0g P d f xs cap K σ true=d0b P d f (o0m (l0a cap)) xs cap K σ:=rfl
end
end Go.Am
namespace Go.Am
attribute [simp] frzC z1u frzA frzT frzL w15 g0h z1n evCs v0t u0l k0q k0r h12 l0a o19 o0m renN c0h delN y1s inN o0g d0e d0d d0c d0b k0x p11
attribute [simp] s0z g0c x1s h0b f0v opX
attribute [simp] insO eqSc y0g dsOf k0l delL p0g r1i m0e y1u x1x d0f d0g g0f i0b i0c i0d i0e g07 t07 m0z r06 hobs i09 d0h i0a d0i i08 d08 d09 d0a p10 j0m q1l fsOf h0j l05 renM ren1 renX renA renC h0m n08 s0h runV runM ev v06 setT look put del A.aff C.aff t0r w0u A.ref C.ref x0f c0e e0t e0s p1i m0d p0f m0u q0e f0e l0z o0b p0c u0p n1y sel p0z e0e n06 u0h r0k j00 C.plain C.scal h0h mkA outs u0r q06 v0q u0k getA setA u0b v0x u0s noSh w0t y0c z1o deep e0p z1s A.scA C.sc w0y c0r r0l b04 shr y04 z0i q0g
attribute [simp] Int.toNat_natCast List.getElem?_map
theorem z08 {n:Int} (h: -9223372036854775808≤n) (h2:n<9223372036854775808):IntKind.i64.wrap n=n:=by
 have e:IntKind.i64.wrap n=if n % 18446744073709551616≥9223372036854775808 then n % 18446744073709551616 - 18446744073709551616 else n % 18446744073709551616:=by
  simp[IntKind.wrap,IntKind.bits,IntKind.signed]
 rw[e]
 split <;> omega
abbrev aI (n:Int):A:= .one (.int .i64 n)
abbrev aB (b:Bool):A:= .one (.bool b)
abbrev aS (s:ByteArray):A:= .one (.str s)
abbrev cI (n:Int):C:= .int .i64 n
abbrev rI (n:Int):List C:=[.int .i64 n]
@[simp] theorem intBne (a b:Int):(a != b)=decide (¬a=b):=by
  by_cases h:a=b <;> simp[h]
@[simp] theorem intBeq (a b:Int):(a == b)=decide (a=b):=by
  by_cases h:a=b <;> simp[h]
end Go.Am
namespace Go.Am
theorem e0u {α:Type} {xs ys:List α} {i:Nat} (h1:i<xs.length) (h2:i<ys.length):xs.take (i+1)=ys.take (i+1)↔xs.take i=ys.take i∧xs[i]=ys[i]:=by
 rw[List.take_succ_eq_append_getElem h1,List.take_succ_eq_append_getElem h2]
 constructor
 ·intro h
  have:=List.append_inj h (by simp; omega)
  exact⟨this.1,by simpa using this.2⟩
 ·rintro⟨h,h'⟩; rw[h,h']
def part {α:Type} (r:α→List C) (z:List C) (xs:List α) (i:Nat):List (List C):=(xs.take i).map r ++ List.replicate (xs.length - i) z
theorem w0o {α:Type} {r:α→List C} {z:List C} {xs:List α} {i:Nat} (h:i<xs.length):(part r z xs i)[i]?=some z:=by
 rw[part,List.getElem?_append_right (by simp; omega)]
 simp[List.getElem?_replicate]; omega
theorem w0p {α:Type} {r:α→List C} {z:List C} {xs:List α} {i:Nat} (h:i<xs.length):(part r z xs i).set i (r xs[i])=part r z xs (i+1):=by
 apply List.ext_getElem?
 intro k
 simp only[part,List.getElem?_set,List.getElem?_append,List.getElem?_map,List.length_map,List.length_take,List.length_append,List.length_replicate,List.getElem?_take,List.getElem?_replicate]
 rcases Nat.lt_trichotomy k i with hk | hk | hk
 ·simp[show ¬i=k by omega,show k<min i xs.length by omega,show k<min (i+1) xs.length by omega,hk,show k<i+1 by omega]
 ·subst hk
  simp[show k<min k xs.length+(xs.length - k) by omega,show k<min (k+1) xs.length by omega,h]
 ·have e1:min i xs.length=i:=by omega
  have e2:min (i+1) xs.length=i+1:=by omega
  simp only[e1,e2,show ¬i=k by omega,if_false,show ¬k<i by omega,show ¬k<i+1 by omega]
  by_cases h3:k<xs.length
  ·rw[if_pos (by omega),if_pos (by omega)]
  ·rw[if_neg (by omega),if_neg (by omega)]
theorem w0n {α:Type} {r:α→List C} {z:List C} {xs:List α}:part r z xs xs.length=xs.map r:=by simp[part]
theorem x0t {α:Type} {r:α→List C} {z:List C} {xs:List α}:part r z xs 0=List.replicate xs.length z:=by simp[part]
@[simp] theorem o1h {α β:Type} (f:α→β) (xs:List α):(xs.map f).take xs.length=xs.map f:=List.take_of_length_le (by simp)
theorem z0p {α:Type} {r s:α→List C} (h: ∀a,y04 (r a)=s a) (xs:List α):z0i (xs.map r)=xs.map s:=by
 rw[t0d,List.map_map]
 exact List.map_congr_left fun a _=>h a
theorem w0e {α:Type} {r:α→List C} (h: ∀a,w0t (r a)=true): ∀xs:List α,y0c (xs.map r)=true
 | []=>rfl
 | x :: xs=>by simp only[List.map_cons,y0c,h x,w0e h xs,Bool.and_self]
@[simp] theorem z2m (n:Int):y04 (rI n)=rI n:=rfl
@[simp] theorem t0x (xs:List Int):z0i (xs.map rI)=xs.map rI:=z0p z2m xs
@[simp] theorem noSh_rI (xs:List Int):y0c (xs.map rI)=true:=w0e (fun _=>rfl) xs
def wL {α:Type} (w:α→Nat):List α→Nat
 | []=>0
 | x :: xs=>1+w x+wL w xs
theorem z0y {α:Type} (w:α→Nat): ∀xs ys:List α,wL w (xs ++ ys)=wL w xs+wL w ys
 | [],ys=>by simp[wL]
 | x :: xs,ys=>by simp only[List.cons_append,wL,z0y w xs ys]; omega
theorem z0a {α:Type} (w:α→Nat): ∀xs:List α,xs.length≤wL w xs
 | []=>Nat.le_refl _
 | x :: xs=>by have:=z0a w xs; simp only[List.length_cons,wL]; omega
theorem z0x {α:Type} (w:α→Nat): ∀(xs:List α) (i:Nat) (h:i<xs.length),w xs[i]+xs.length≤wL w xs
 | x :: xs,0,_=>by have:=z0a w xs; simp only[List.getElem_cons_zero,List.length_cons,wL]; omega
 | x :: xs,i+1,h=>by
   have:=z0x w xs i (by simpa using h)
   simp only[List.getElem_cons_succ,List.length_cons,wL]; omega
theorem t0z {α:Type} (w:α→Nat) {xs:List α} {i:Nat} (h:i<xs.length):wL w (xs.take (i+1))=wL w (xs.take i)+1+w xs[i]:=by
 rw[List.take_succ_eq_append_getElem h,z0y]
 simp[wL]; omega
theorem x0h {α:Type} (w:α→Nat) (xs:List α) (i:Nat):wL w (xs.take i)≤wL w xs:=by
 have:=z0y w (xs.take i) (xs.drop i)
 rw[List.take_append_drop] at this
 omega
def w0:Int→Nat:=fun _=>0
theorem v09: ∀xs:List Int,wL w0 xs=xs.length
 | []=>rfl
 | x :: xs=>by simp only[wL,w0,v09 xs,List.length_cons]; omega
def lL {α:Type} (l:α→Prop) (xs:List α):Prop:=xs.length<2 ^ 63∧∀(i:Nat) (h:i<xs.length),l xs[i]
def l0:Int→Prop:=fun n=> -9223372036854775808≤n∧n<9223372036854775808
def lft (left:Int) (w:Nat):Int:=if left - w<0 then -1 else left - w
theorem z0j {left:Int} {w:Nat} (h:left<w):lft left w = -1:=by unfold lft; rw[if_pos (by omega)]
theorem z0w {left:Int} {w:Nat} (h:w≤left):lft left w=left - w:=by unfold lft; rw[if_neg (by omega)]
structure Mk (α:Type) where
 wr:α→Int→α
 n:α→Nat
def Mk.nL {α:Type} (M:Mk α):List α→Nat
 | []=>0
 | x :: xs=>M.n x+M.nL xs
def Mk.mkL {α:Type} (M:Mk α):List α→Int→List α
 | [],_=>[]
 | x :: xs,k=>M.wr x k :: M.mkL xs (k+M.n x)
def Mk.L {α:Type} (M:Mk α):Mk (List α):=⟨M.mkL,M.nL⟩
section
variable {α:Type} {M:Mk α} {xs:List α} {k:Int} {i:Nat}
def Mk.pos (M:Mk α) (xs:List α) (k:Int) (i:Nat):Int:=k+M.nL (xs.take i)
@[simp] theorem Mk.mkL_len (M:Mk α): ∀(xs:List α) (k:Int),(M.mkL xs k).length=xs.length
  | [],_=>rfl
  | x :: xs,k=>by simp[Mk.mkL,Mk.mkL_len M xs]
@[simp] theorem h1r {β:Type} (f:α→β) (M:Mk α) (xs:List α) (k:Int):((M.mkL xs k).map f).take xs.length=(M.mkL xs k).map f:=List.take_of_length_le (by simp)
end
theorem z0z {P:Program} {f:Nat} {Kv:A→Prop} {b:Bool} {as:List A} {v:A} (h:z06 P f as v) (hn:b=true→u0s v=true) (k:Kv v):gcal P f Kv (some (b,as)):=⟨v,h,hn,k⟩
theorem z0c {P:Program} {d:Option Nat} {f:Nat} {K:St→Prop} {b:Bool} {as:List A} {σ1:St} {v:A} (h:z06 P f as v) (hn:b=true→u0s v=true) (k:K (setT { tm:=w0u deep σ1.tm,ob:=σ1.ob } d v)):x1z P d f K b as σ1:=
 CallsA.mono h fun _ _ ⟨h1,h2⟩=>⟨h1,by rw[h2]; exact hn,by rw[h2]; exact k⟩
theorem n1c {P:Program} {fs:List Nat} (hF:FOK P fs) {f:Nat} (h:fs.contains f=true):FnOk P f:=by
 have h1:=d01 hF (by simpa using h:f∈fs)
 unfold FOK1 at h1
 obtain⟨fn,h2,h3⟩:=y0a h1
 simp only[Prod.mk.injEq] at h3
 exact⟨fn,h2,h3.1,h3.2⟩
def o0s (P:Program) (f:FuncId) (args:List A) (o o':Obj) (v:A):Prop:=CallsA P f args [(1000,o)] fun r H=>H=[(1000,o')]∧r=v
theorem z0e {P:Program} {d:Option Nat} {f:Nat} {K:St→Prop} {root:Nat} {st0:Path} {o o1 o':Obj} {b:Bool} {as:List A} {σ1:St} {v:A} (h:o0s P f as o1 o' v) (ht:o'.t=o1.t) (he:o'.e=o1.e)
 (hl:st0=[]∨o'.xs.length=o1.xs.length) (hn:b=true→u0s v=true∧y0c o'.xs=true)
 (k:K (setT { tm:=w0u deep σ1.tm,ob:=put σ1.ob root ⟨o.t,o.e,setA o.xs st0 o'.xs⟩ } d v)):w12 P d f K root st0 o o1 b as σ1:=
 CallsA.mono h fun r H ⟨hH,hr⟩=>⟨o',hH,ht,he,hl,by rw[hr]; exact hn,by rw[hr]; exact k⟩
end Go.Am
namespace Go.Am
open Go.ChangeShapes Go.WideShapes Go.RowKit
inductive Sh where
 | i
 | u
 | s
 | l (e:Nat) (r:List Sh)
mutual
def inSh:Sh→C→Prop
 | .i,c=>∃n:Int,c = .int .i64 n∧l0 n
 | .u,c=>∃n:Int,c = .int .u8 n∧0≤n∧n<256
 | .s,c=>∃b:ByteArray,c = .str b∧b.size<2 ^ 63
 | .l e r,c=>∃xs:List (List C),c = .ar false 0 e xs∧xs.length<2 ^ 63∧∀x∈xs,y0v r x
def y0v:List Sh→List C→Prop
 | [],cs=>cs=[]
 | h :: r,cs=>∃c cs',cs=c :: cs'∧inSh h c∧y0v r cs'
end
theorem f0b: ∀{r:List Sh} {cs:List C},y0v r cs→cs.length=r.length
 | [],_,h=>by simp only[y0v] at h; simp[h]
 | _ :: r,_,h=>by
   simp only[y0v] at h
   obtain⟨c,cs',rfl,_,h⟩:=h
   simp[f0b h]
theorem o0z: ∀{r:List Sh} {r':List Sh} {cs cs':List C},y0v r cs→y0v r' cs'→y0v (r ++ r') (cs ++ cs')
 | [],_,_,_,h,h'=>by simp only[y0v] at h; subst h; exact h'
 | _ :: r,_,_,_,h,h'=>by
   simp only[y0v] at h
   obtain⟨c,cs1,rfl,h1,h2⟩:=h
   simp only[List.cons_append,y0v]
   exact⟨c,_,rfl,h1,o0z h2 h'⟩
def shGo (P:Program) (sub:TypeId→Option (List Sh)):Nat→List Field→Option (List Sh)
 | _,[]=>some []
 | o,fl :: fs=>if fl.offset=o then
    match sub fl.type with
    | some r=>if r.length=P.cellsOf fl.type then
       match shGo P sub (o+P.cellsOf fl.type) fs with
       | some r'=>some (r ++ r')
       | none=>none
      else none
    | none=>none
   else none
def shT (P:Program):Nat→TypeId→Option (List Sh)
 | 0,_=>none
 | f+1,t=>match P.underlying t with
   | some (.int .i64)=>some [.i]
   | some (.int .u8)=>some [.u]
   | some .string=>some [.s]
   | some (.slice e)=>match shT P f e with
     | some r=>if r.length=P.cellsOf e∧P.cellsOf e≠0 then some [.l (P.cellsOf e) r] else none
     | none=>none
   | some (.struct fs)=>(shGo P (shT P f) 0 fs.toList).bind fun r=>if r.length=P.cellsOf t then some r else none
   | _=>none
section
variable {H:Type} {enc:TypeId×Value→H} {P:Program} {w:World} {lc:Loc}
def old (w:World):Nat→Prop:=fun b=>b<w.heap.size
theorem a06 {α β:Type} {f:α→Option β}: ∀{xs:List α} {ys:List β},xs.mapM f=some ys→ys.length=xs.length∧∀(i:Nat) x,xs[i]?=some x→∃y,ys[i]?=some y∧f x=some y
 | [],ys,h=>by
   simp only[List.mapM_nil,Option.pure_def,Option.some.injEq] at h
   subst h
   exact⟨rfl,fun i x h=>by simp at h⟩
 | x :: xs,ys,h=>by
   rw[List.mapM_cons] at h
   cases hx:f x with
   | none=>rw[hx] at h; simp at h
   | some y=>
     rw[hx] at h
     cases hr:xs.mapM f with
     | none=>rw[hr] at h; simp at h
     | some ys'=>
       rw[hr] at h
       simp only[Option.pure_def,Option.bind_eq_bind,Option.bind_some,Option.some.injEq] at h
       subst h
       obtain⟨h1,h2⟩:=a06 hr
       refine⟨by simp[h1],fun i z hz=>?_⟩
       cases i with
       | zero=>
         simp only[List.getElem?_cons_zero,Option.some.injEq] at hz
         subst hz
         exact⟨y,by simp,hx⟩
       | succ i=>simpa using h2 i z (by simpa using hz)
theorem m05 {base n:Nat} {a:Addr} {cs:List Value} (h:w.cells? base a n=some cs):cs.length=n∧∀i,i<n→w.cell? (a.add i)=cs[i]?:=by
 unfold World.cells? at h
 split at h
 case isFalse=>cases h
 obtain⟨h1,h2⟩:=a06 h
 rw[List.length_range] at h1
 refine⟨h1,fun i hi=>?_⟩
 obtain⟨y,hy,hc⟩:=h2 i i (by simp[hi])
 rw[hc,hy]
theorem w18 {a:Addr} {v:Value} (h:w.cell? a=some v):a.spot=none:=by
 unfold World.cell? at h
 split at h
 ·split at h
  ·cases h
  ·rename_i hs
   cases hh:a.spot with
   | none=>rfl
   | some x=>rw[hh] at hs; simp at hs
 ·cases h
theorem t1o {e:Nat} {r:List Sh} (hr:r.length=e): ∀(len:Nat) (vs:List Value),vs.length=len*e→(∀i,i<len→∃row,y0v r row∧z0d w (old w) row ((vs.drop (i*e)).take e) fz)→
 ∃xs:List (List C),xs.length=len∧(∀x∈xs,y0v r x)∧z09 w (old w) e xs vs fz
 | 0,vs,hl,_=>by
   have:vs=[]:=List.eq_nil_of_length_eq_zero (by simpa using hl)
   subst this
   exact⟨[],rfl,by simp,by simp[z09]⟩
 | len+1,vs,hl,h=>by
   obtain⟨row,h1,h2⟩:=h 0 (by omega)
   simp only[Nat.zero_mul,List.drop_zero] at h2
   obtain⟨xs,h3,h4,h5⟩:=t1o hr len (vs.drop e) (by rw[List.length_drop,hl,Nat.add_mul]; omega) fun i hi=>by
    obtain⟨row,h6,h7⟩:=h (i+1) (by omega)
    refine⟨row,h6,?_⟩
    rw[List.drop_drop,Nat.add_comm e,← Nat.succ_mul]
    exact h7
   refine⟨row :: xs,by simp[h3],fun x hx=>?_,?_⟩
   ·rcases List.mem_cons.1 hx with rfl | hx
    ·exact h1
    ·exact h4 x hx
   ·simp only[z09]
    exact⟨vs.take e,vs.drop e,fz,fz,by simp,by rw[f0b h1,hr],(z0g _).symm,h2,h5⟩
theorem b02: ∀{f fuel:Nat} {t:TypeId} {cs:List Value} {r:List Sh} {x:DataW H×List MemPlace},DataW.trod enc P w 0 (fun _=>true) true fuel t cs=some x→shT P f t=some r→∃row,y0v r row∧z0d w (old w) row cs fz
 | 0,_,_,_,_,_,_,hs=>by simp[shT] at hs
 | f+1,fuel,t,cs,r,x,h,hs=>by
   simp only[shT] at hs
   split at hs
   ·rename_i hu
    simp only[Option.some.injEq] at hs
    subst hs
    obtain⟨n,rfl,_,hw⟩:=DataW.trod_int hu h
    have hn:l0 n:=by
     simp[Lit.wf,IntKind.min,IntKind.max,IntKind.signed,IntKind.bits] at hw
     simp only[l0]; omega
    exact⟨[.int .i64 n],by simp[y0v,inSh,hn],by simp only[z0d,repC]; exact⟨_,[],fz,fz,rfl,(z0g _).symm,⟨rfl,rfl⟩,rfl,rfl⟩⟩
   ·rename_i hu
    simp only[Option.some.injEq] at hs
    subst hs
    obtain⟨n,rfl,_,hw⟩:=DataW.trod_int hu h
    have hn:0≤n∧n<256:=by
     simp[Lit.wf,IntKind.min,IntKind.max,IntKind.signed,IntKind.bits] at hw
     omega
    exact⟨[.int .u8 n],by simp[y0v,inSh,hn],by simp only[z0d,repC]; exact⟨_,[],fz,fz,rfl,(z0g _).symm,⟨rfl,rfl⟩,rfl,rfl⟩⟩
   ·rename_i hu
    simp only[Option.some.injEq] at hs
    subst hs
    obtain⟨b,rfl,_,hb⟩:=DataW.trod_string hu h
    refine⟨[.str b],?_,by simp only[z0d,repC]; exact⟨_,[],fz,fz,rfl,(z0g _).symm,⟨rfl,rfl⟩,rfl,rfl⟩⟩
    simp only[y0v,inSh]
    exact⟨_,[],rfl,⟨b,rfl,by simp only[maxLen] at hb; omega⟩,rfl⟩
   ·rename_i e hu
    split at hs
    case h_2=>cases hs
    rename_i r' he
    split at hs
    case isFalse=>cases hs
    rename_i hlen
    obtain⟨hlen,hne0⟩:=hlen
    simp only[Option.some.injEq] at hs
    subst hs
    rcases DataW.trod_slice hu h with⟨rfl,_⟩ | ⟨a,len,cap,elems,rest,n,rfl,rfl,_,_,hlc,hcm,hel,hrd,_,_⟩
    ·refine⟨[.ar false 0 (P.cellsOf e) []],?_,?_⟩
     ·simp only[y0v,inSh]
      exact⟨_,[],rfl,⟨[],rfl,by simp,by simp⟩,rfl⟩
     ·simp only[z0d,repC]
      exact⟨_,[],fz,fz,rfl,(z0g _).symm,⟨rfl,none,0,rfl,by simp,by simp[maxLen],fun h=>absurd rfl h⟩,rfl,rfl⟩
    ·-- the elements
     have hrow: ∀i,i<len→∃csi row,w.cells? 0 (a.add (i*P.cellsOf e)) (P.cellsOf e)=some csi∧y0v r' row∧z0d w (old w) row csi fz:=by
      intro i hi
      have h1:=hrd i hi
      rw[List.getElem?_eq_getElem (by omega)] at h1
      cases hc:w.cells? 0 (a.add (i*P.cellsOf e)) (P.cellsOf e) with
      | none=>rw[hc] at h1; simp at h1
      | some csi=>
        rw[hc] at h1
        obtain⟨row,h2,h3⟩:=b02 (f:=f) h1 he
        exact⟨csi,row,rfl,h2,h3⟩
     by_cases hz:len=0
     ·subst hz
      refine⟨[.ar false 0 (P.cellsOf e) []],?_,?_⟩
      ·simp only[y0v,inSh]
       exact⟨_,[],rfl,⟨[],rfl,by simp,by simp⟩,rfl⟩
      ·simp only[z0d,repC]
       exact⟨_,[],fz,fz,rfl,(z0g _).symm,⟨rfl,some a,cap,rfl,by simp,hcm,fun h=>absurd rfl h⟩,rfl,rfl⟩
     ·have hl0:0<len:=by omega
      have he0:0<P.cellsOf e:=by omega
      obtain⟨cs0,_,hc0,_,_⟩:=hrow 0 hl0
      obtain⟨hl0',hg0⟩:=m05 hc0
      have hcell0:=hg0 0 he0
      rw[List.getElem?_eq_getElem (by omega)] at hcell0
      have hsp:a.spot=none:=by
       have:=w18 hcell0
       simpa [Addr.add] using this
      obtain⟨b,off,sp⟩:=a
      simp only at hsp
      subst hsp
      have hcellAt: ∀i k,(Addr.add ⟨b,off,none⟩ (i*P.cellsOf e)).add k=⟨b,off+(i*P.cellsOf e+k),none⟩:=fun i k=>by
       rw[Addr.add_lit,Addr.add_lit,Nat.add_assoc]
      have hblk: ∃cur ty fr,w.heap[b]?=some (.cells cur ty fr):=by
       have:w.cell? ⟨b,off+(0*P.cellsOf e+0),none⟩=some cs0[0]:=by rw[← hcellAt]; exact hcell0
       unfold World.cell? at this
       split at this
       ·exact⟨_,_,_,by assumption⟩
       ·cases this
      obtain⟨cur,ty,fr,hb⟩:=hblk
      have hcur: ∀i k,i<len→k<P.cellsOf e→∃v,cur[off+(i*P.cellsOf e+k)]?=some v:=by
       intro i k hi hk
       obtain⟨csi,_,hci,_,_⟩:=hrow i hi
       obtain⟨hli,hgi⟩:=m05 hci
       have:=hgi k hk
       rw[hcellAt,y07 hb,List.getElem?_eq_getElem (by omega)] at this
       exact⟨_,this⟩
      have hsize:off+len*P.cellsOf e≤cur.size:=by
       obtain⟨v,hv⟩:=hcur (len - 1) (P.cellsOf e - 1) (by omega) (by omega)
       have h1:=(Array.getElem?_eq_some_iff.1 hv).1
       have h2:len*P.cellsOf e=(len - 1)*P.cellsOf e+P.cellsOf e:=by
        rw[← Nat.succ_mul]; congr 1; omega
       omega
      have hvl:((cur.toList.drop off).take (len*P.cellsOf e)).length=len*P.cellsOf e:=by
       rw[List.length_take,List.length_drop,Array.length_toList]; omega
      obtain⟨xs,hx1,hx2,hx3⟩:=t1o (w:=w) hlen len _ hvl fun i hi=>by
       obtain⟨csi,row,hci,h2,h3⟩:=hrow i hi
       refine⟨row,h2,?_⟩
       obtain⟨hli,hgi⟩:=m05 hci
       have:(((cur.toList.drop off).take (len*P.cellsOf e)).drop (i*P.cellsOf e)).take (P.cellsOf e)=csi:=by
        apply List.ext_getElem?
        intro k
        have hmul:(i+1)*P.cellsOf e≤len*P.cellsOf e:=Nat.mul_le_mul_right _ hi
        rw[Nat.add_mul,Nat.one_mul] at hmul
        by_cases hk:k<P.cellsOf e
        ·rw[List.getElem?_take_of_lt hk,List.getElem?_drop,List.getElem?_take_of_lt (by omega),List.getElem?_drop]
         rw[← hgi k hk,hcellAt,y07 hb]
         simp
        ·rw[List.getElem?_eq_none (by rw[List.length_take]; omega),List.getElem?_eq_none (by omega)]
       rw[this]; exact h3
      refine⟨[.ar false 0 (P.cellsOf e) xs],?_,?_⟩
      ·simp only[y0v,inSh]
       refine⟨_,[],rfl,⟨xs,rfl,by simp only[maxLen] at hcm; omega,hx2⟩,rfl⟩
      ·simp only[z0d,repC]
       refine⟨_,[],fz,fz,rfl,(z0g _).symm,⟨rfl,some ⟨b,off,none⟩,cap,by rw[hx1],by omega,hcm,fun _=>⟨b,off,cur,ty,fr,rfl,(Array.getElem?_eq_some_iff.1 hb).1,hb,by rw[hx1]; exact hsize,by rw[hx1]; exact hx3⟩⟩,rfl,rfl⟩
   ·rename_i fs hu
    cases hgo:shGo P (shT P f) 0 fs.toList with
    | none=>rw[hgo] at hs; simp at hs
    | some r0=>
      rw[hgo] at hs
      simp only[Option.bind_some] at hs
      split at hs
      case isFalse=>cases hs
      rename_i hlen
      simp only[Option.some.injEq] at hs
      subst hs
      obtain⟨xs,n,rfl,_,hcl,hxl,hfl⟩:=DataW.trod_struct hu h
      have key: ∀(l:List Field) (o:Nat) (r1:List Sh),shGo P (shT P f) o l=some r1→(∀fl∈l,∃y,DataW.trod enc P w 0 (fun _=>true) true n fl.type ((cs.drop fl.offset).take (P.cellsOf fl.type))=some y)→
       ∃row,y0v r1 row∧z0d w (old w) row ((cs.drop o).take r1.length) fz:=by
       intro l
       induction l with
       | nil=>
         intro o r1 hg _
         simp only[shGo,Option.some.injEq] at hg
         subst hg
         exact⟨[],by simp[y0v],by simp[z0d]⟩
       | cons fl l ih=>
         intro o r1 hg hall
         simp only[shGo] at hg
         split at hg
         case isFalse=>cases hg
         rename_i ho
         subst ho
         split at hg
         case h_2=>cases hg
         rename_i ra hra
         split at hg
         case isFalse=>cases hg
         rename_i hral
         split at hg
         case h_2=>cases hg
         rename_i rb hrb
         simp only[Option.some.injEq] at hg
         subst hg
         obtain⟨y,hy⟩:=hall fl (List.mem_cons_self ..)
         obtain⟨row1,h1,h2⟩:=b02 (f:=f) hy hra
         obtain⟨row2,h3,h4⟩:=ih _ _ hrb fun fl' hm=>hall fl' (List.mem_cons_of_mem _ hm)
         refine⟨row1 ++ row2,o0z h1 h3,?_⟩
         have:(cs.drop fl.offset).take (ra ++ rb).length=(cs.drop fl.offset).take (P.cellsOf fl.type) ++ (cs.drop (fl.offset+P.cellsOf fl.type)).take rb.length:=by
          rw[List.length_append,hral,List.take_add,List.drop_drop]
         rw[this]
         have happ: ∀(r1 r2:List C) (v1 v2:List Value),z0d w (old w) r1 v1 fz→z0d w (old w) r2 v2 fz→z0d w (old w) (r1 ++ r2) (v1 ++ v2) fz:=by
          intro r1
          induction r1 with
          | nil=>intro r2 v1 v2 h1 h2; simp only[z0d] at h1; rw[h1.1]; exact h2
          | cons c r1 ih=>
            intro r2 v1 v2 h1 h2
            simp only[z0d] at h1
            obtain⟨v,vs',F1,F2,rfl,hF,h3,h4⟩:=h1
            have e1:F1=fz:=by funext x; have:=congrFun hF x; simp only[add,fz] at *; omega
            have e2:F2=fz:=by funext x; have:=congrFun hF x; simp only[add,fz] at *; omega
            subst e1; subst e2
            simp only[List.cons_append,z0d]
            exact⟨v,_,fz,fz,rfl,(z0g _).symm,h3,ih _ _ _ h4 h2⟩
         exact happ _ _ _ _ h2 h4
      obtain⟨row,h1,h2⟩:=key fs.toList 0 r0 hgo fun fl hm=>by
       obtain⟨i,hi,hfi⟩:=List.getElem_of_mem hm
       have:=hfl i fl (by simp only[Array.length_toList] at hi; rw[Array.getElem?_eq_getElem hi]; simpa using hfi)
       simp only[Array.length_toList] at hi
       rw[List.getElem?_eq_getElem (by omega)] at this
       exact⟨_,this⟩
      refine⟨row,h1,?_⟩
      rw[List.drop_zero,List.take_of_length_le (by omega)] at h2
      exact h2
   ·cases hs
theorem g1z {r:Reach} {b0 f:Nat} {t:TypeId} {fs:Array Field} {v:Value} {d:DataW H} {ps:List MemPlace} {sh:List Sh} (ht:P.underlying t=some (.struct fs)) (hs:shT P f t=some sh) (hval:Value.okWide P w r b0 t v)
 (hd:DataW.Trod enc P w 0 (fun _=>true) true t v d ps): ∃row,y0v sh row∧repA w (old w) lc (.agg row) v fz:=by
 obtain⟨cs,rfl,_⟩:=okWide_struct ht hval
 obtain⟨fuel,hf⟩:=hd
 obtain⟨row,h1,h2⟩:=b02 hf hs
 exact⟨row,h1,cs.toList,by simp,s0n h2⟩
theorem u1p {α:Type} {r:List Sh} {s:α→List C} {l:α→Prop} (h: ∀x,y0v r x→∃a,x=s a∧l a): ∀xs:List (List C),(∀x∈xs,y0v r x)→∃as:List α,xs=as.map s∧∀a∈as,l a
 | [],_=>⟨[],rfl,by simp⟩
 | x :: xs,hx=>by
   obtain⟨a,rfl,ha⟩:=h x (hx x (List.mem_cons_self ..))
   obtain⟨as,rfl,has⟩:=u1p h xs fun y hy=>hx y (List.mem_cons_of_mem _ hy)
   refine⟨a :: as,rfl,fun b hb=>?_⟩
   rcases List.mem_cons.1 hb with rfl | hb
   ·exact ha
   ·exact has b hb
theorem r07 {α:Type} {r:List Sh} {s:α→List C} {l:α→Prop} {e:Nat} (h: ∀x,y0v r x→∃a,x=s a∧l a) (c:C) (hc:inSh (.l e r) c): ∃as:List α,c = .ar false 0 e (as.map s)∧lL l as:=by
 simp only[inSh] at hc
 obtain⟨xs,rfl,hl,hx⟩:=hc
 obtain⟨as,rfl,ha⟩:=u1p h xs hx
 exact⟨as,rfl,by simpa using hl,fun i hi=>ha _ (List.getElem_mem hi)⟩
theorem a0b (x:List C) (h:y0v [.i] x): ∃a:Int,x=rI a∧l0 a:=by
 simp only[y0v,inSh] at h
 obtain⟨c,cs',rfl,⟨n,rfl,hn⟩,rfl⟩:=h
 exact⟨n,rfl,hn⟩
theorem r16 {f:FuncId} {args:List A} {c:C} (h:z06 P f args (.one c)) (hr: ∀w N g F,repC w N c g F→g = .bool true) (W:World) (gs:List Value) (hn: ∀a∈args,a.ref inR=false) (ha:x07 W (old W) (fun _=>none) args gs fz) (hc:c.plain=true) :
 Calls P f gs.toArray W fun e W'=>e = .returned (.bool true)∧Below W.heap.size W W':=by
 refine (h W (old W) (fun _=>none) gs fz fz fz ⟨fun _=>Nat.zero_le _,fun b hb=>absurd hb (by simp[fz]),fun b hb=>⟨rfl,hb⟩⟩ (fun _=>Nat.le_refl _) hn ha rfl).mono ?_
 rintro e w' ⟨g,r,H',N',lc',F',Fr',Fo',rfl,⟨rfl,rfl⟩,hB,hr',_,_,_,hF⟩
 exact⟨by rw[hr _ _ _ _ (v0s hc hr')],hF.os,hF.tape,hF.output,hF.size,fun k hk=>hF.keep k hk rfl⟩
end
end Go.Am
