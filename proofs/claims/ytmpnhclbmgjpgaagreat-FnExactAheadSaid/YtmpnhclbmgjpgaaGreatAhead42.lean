/- Text 42 for FnExactAhead. -/
import Derived.Test.YtmpnhclbmgjpgaaGreatAhead41
set_option linter.unusedVariables false
set_option linter.unusedSimpArgs false
namespace Go.Am
open Go.Proofs
set_option maxHeartbeats 4000000
set_option maxRecDepth 100000
attribute [-simp] BitVec.toNat_or BitVec.toNat_and BitVec.toNat_ofInt
section
theorem f1h {F:FarF} {g:TGram} {w:List Int} {r:TRun} (hg:y02 g=true) (hp:r.pos.toNat≤w.length) (hw:w.length≤10) (hk:l0 r.look) (hs:lL t04 r.slots) (hb:wRun r<2 ^ 40):StepOk r (goF F g w r) r.cost:=by
 unfold goF
 split
 ·split
  ·exact n0l hk hs
  ·exact⟨Nat.le_add_right _ _,hk,hs,rfl⟩
 ·rename_i s _
  split
  ·exact u1b hk hs
  ·refine m1d hg ?_ hk hs hb
   rcases r02 (F:=F) (k:=s.sym - 100) (rest:=x03 r.slots) hg hp rfl with h | ⟨_,_,_,_,_,h⟩ <;> omega
structure SomeOk (F:FarF) (g:TGram) (w:List Int) (r r':TRun):Prop where
 w:wRun r'≤wRun r+12
 look:l0 r'.look
 slots:lL t04 r'.slots
 cost:r'.code=0→r'.cost=r.cost+1∧0≤r.cost∧r.cost≤599
theorem h1o {F:FarF} {g:TGram} {w:List Int} {r:TRun} (hc:r.code=0) (hk:l0 r.look) (hs:lL t04 r.slots) (hb:wRun r<2 ^ 40):SomeOk F g w r (s0x F g w r):=by
 unfold s0x o04
 rw[if_neg (by simp[hc])]
 split
 ·rename_i h1
  simp only[inB,Bool.and_eq_true,decide_eq_true_eq] at h1
  have hwl:=x0z h1.1
  rw[if_neg (by simp[hc])]
  split
  ·rename_i h2
   have hp:=s0q h2
   have h3:=(l0t h2 0).2
   rw[z0l] at h3
   have h:=f1h (F:=F) (g:=g) (w:=w) (r:={ r with cost:=r.cost+1 }) (y0t h1.2) (by simp only; omega) hwl hk hs hb
   exact⟨h.w,h.look,h.slots,fun _=>⟨h.cost,by omega,by omega⟩⟩
  ·exact⟨Nat.le_add_right _ _,hk,hs,fun h=>by simp at h⟩
 ·exact⟨Nat.le_add_right _ _,hk,hs,fun h=>by simp at h⟩
theorem r0z {F:FarF} {g:TGram} {w:List Int} {r:TRun} (h:r.code≠0): ∀n,r0j F g w n r=r
 | 0=>rfl
 | n+1=>by rw[r0j,if_neg h]
theorem o0p {F:FarF} {g:TGram} {w:List Int} {r:TRun} (h:r.code=0) {n:Nat} (hn:0<n):r0j F g w n r=r0j F g w (n - 1) (s0x F g w r):=by
 obtain⟨m,rfl⟩: ∃m,n=m+1:=⟨n - 1,by omega⟩
 rw[r0j,if_pos h]; rfl
structure Upto (W:Nat) (i:Nat) (r:TRun):Prop where
 le:i≤601
 c:r.code=0→1≤i→(i:Int)≤r.cost∧r.cost≤600
 w:wRun r≤W+12*i
 look:l0 r.look
 slots:lL t04 r.slots
theorem e0x {F:FarF} {g:TGram} {w:List Int} {W i:Nat} {r:TRun} (h:Upto W i r) (hW:W<2 ^ 30) (hc:r.code=0):Upto W (i+1) (s0x F g w r):=by
 have h1:=h1o (F:=F) (g:=g) (w:=w) hc h.look h.slots (by have:=h.w; have:=h.le; omega)
 have hi:=h.le
 have hh:=h.c hc
 refine⟨?_,fun hc2 _=>?_,by have:=h1.w; have:=h.w; omega,h1.look,h1.slots⟩
 ·by_cases h0:1≤i
  ·have:=hh h0; omega
  ·omega
 ·have h2:=h1.cost hc2
  by_cases h0:1≤i
  ·have:=hh h0; omega
  ·omega
def g1v (F:FarF) (g:TGram) (w:List Int) (n:Int) (W:Nat) (T:TRun) (k:Nat) (σ:St):Prop:=∃(i:Nat) (r:TRun),Upto W i r∧k=601 - i∧r0j F g w (n.toNat - i) r=T∧
 σ=⟨[(1,.one (.ar false 0 1 (w.map rI))),(3,aI n),(4,.one (.pt 1 4 [] 0 0)),(8,.one (.pt 7 8 [] 0 0)),(9,.one (.pt 7 9 [] 0 0)),(10,aI i)],[(4,⟨66,1,[[.ar false 0 1 (g.parts.map sISS)]]⟩),(8,⟨61,7,[[.int .i64 0,.int .i64 0,.int .i64 0,.int .i64 0,.ar true 203 2 [],.ar true 282 5 [],.ar true 222 3 []]]⟩),(9,⟨61,7,[rRun r]⟩)]⟩
theorem l07 (r:TRun):w0t (rRun r)=true:=by
 have h:=u1k [r]
 simpa [y0c] using h
theorem o1k (r:TRun) (hlk:l0 r.look) (hsl:lL t04 r.slots):Upto (wRun r) 0 r:=⟨by omega,fun _ h=>absurd h (by omega),by omega,hlk,hsl⟩
def f1u:K:=dc 0x11b2001cbf1b2411c208100a581582e5500454a00305a2401cbf1a6585c3c291592411c260101710104214104500018350253a4d0280e522c44d0f5100109243d24019143d40f00f38d34438300d2802010000372892040c11ca2481030461c014a03904104000c2401cbf090f6a810c5cab0430a3a810c00000000000000000071d5a1230b06fa452c6047084040203daa043172ac10c28ea0430000000000000000001c75684860875682040016a8203040
def m1i:Nat×List RV:=(28,[.c 8 7 true])
theorem c_100:z01 PA 100 m1i f1u:=by unfold z01; kernel_rfl
theorem k0e {F:FarF} (hF:s0e F) (g:TGram) (w:List Int) (r:TRun) (n:Int) (hgw:z0q g<2 ^ 31) (hgl:x0d g) (hr:wRun r<2 ^ 29) (hlk:l0 r.look) (hsl:lL t04 r.slots):z06 Tryz.prog 100 [.agg (z0b g),.one (.ar false 0 1 (w.map rI)),.agg (sRun r),aI n] (.agg (rRun (r0j F g w n.toNat r))):=by
 have hcp:=q0b r (by omega)
 have hst:=fun r=>k0f hF g w r hgw hgl
 have hup:=o1k r hlk hsl
 generalize hT:r0j F g w n.toNat r=T
 generalize hW:wRun r=W at *
 refine Prun c_100 (by simp[m1i]) (by simp) ?_
 (conv in f1u=>reduce); unfold m1i
 obtain⟨c1,c2,c3,c4,ss,⟨ns⟩,es⟩:=r
 obtain⟨ps⟩:=g
 simp only[sRun,rRun] at hcp
 simp only[z0b] at hst
 simp[z0b,sRun]
 refine z00 hcp (by simp) ?_
 simp
 refine z04 (g1v F ⟨ps⟩ w n W T) 601 ⟨0,_,hup,by omega,hT,by simp[rRun]⟩ ?_
 clear hup hT hcp hlk hsl
 rintro k σ ⟨i,r,hup,rfl,hT,rfl⟩
 have hi:=hup.le
 have hw:=hup.w
 have hst:=hst r (by omega) hup.look
 have wc:IntKind.i64.wrap ((i:Int)+1)=i+1:=z08 (by omega) (by omega)
 have hnx:=fun hc=>e0x (F:=F) (g:=⟨ps⟩) (w:=w) hup (by omega) hc
 by_cases c1:(i:Int)<n
 ·by_cases c2:r.code=0
  ·have hnx2:=hnx c2
   clear hnx
   rw[o0p c2 (by omega)] at hT
   have hc:=hup.c c2
   have hi2:i<601:=by by_cases h0:1≤i <;> omega
   generalize s0x F ⟨ps⟩ w r=r2 at *
   obtain⟨d1,d2,d3,d4,ss2,⟨ns2⟩,es2⟩:=r
   simp only at c2
   subst c2
   simp only[sRun] at hst
   simp[c1,rRun]
   refine z00 hst (fun _=>l07 r2) ?_
   simp[wc]
   exact⟨601 - (i+1),by omega,i+1,r2,hnx2,rfl,by rw[← hT]; congr 1,by simp[rRun,wc]⟩
  ·rw[r0z c2] at hT
   subst hT
   simp[c1,rRun,c2]
 ·have e:n.toNat - i=0:=by omega
  rw[e,r0j] at hT
  subst hT
  simp[c1,rRun]
def d16:K:=dc 0x4b080072fc1282411c208100aa010280b99c01272800c10e8aa924326ca900a80400681010420c10450001839829ba962280e642c4962f630010a48bd2401a38bd8a102181f34480301f2802010000372892040c11ca2481030461c014a03904104000311e2001cbf1e2411c2081004e5d0012fc74900608101c09c6fb60a6896d8f99063a05698f8404109963e617017589595059a055410080400031142001cbf142411c20810130934bb40a03944e11243e0c0450f903c03c0e4e30438d00108d18018704000c2401cbf090f6a810c5cab0430a3a810c00000000000000000071d5a1230b04aa452c6047084040203daa043172ac10c28ea0430000000000000000001c75684860875682040016a8203040
def l1u:Nat×List RV:=(45,[.c 8 7 true])
theorem c_160:z01 PA 160 l1u d16:=by unfold z01; kernel_rfl
theorem k06 {F:FarF} (hF:s0e F) (g:TGram) (w:List Int) (r:TRun) (n:Int) (hgw:z0q g<2 ^ 31) (hgl:x0d g) (hr:wRun r<2 ^ 29) (hlk:l0 r.look) (hsl:lL t04 r.slots) (hwl:w.length<2 ^ 63):z06 Tryz.prog 160 [.agg (z0b g),.one (.ar false 0 1 (w.map rI)),.agg (sRun r),aI n] (.agg (rRun (r0j F g w n.toNat r))):=by
 have hcp:=k08 r (by omega)
 have hst:=fun r t h1 h2=>v1g hF t g w r h1 h2 hgw hgl
 have hin:=t0t w hwl
 have hgd:=b0w g hgw hgl
 have hup:=o1k r hlk hsl
 have s0:(r.code≠0∨n≤0)→r0j F g w n.toNat r=r:=fun h=>by
  rcases h with h | h
  ·exact r0z h _
  ·have e:n.toNat=0:=by omega
   rw[e,r0j]
 have s1:r.code=0→0<n→inB g w=false→r0j F g w n.toNat r = { r with code:=2 }:=fun h hn hi=>by
  rw[o0p h (by omega),s0x,if_neg (by simp[h]),if_neg (by simp[hi]),r0z (by simp)]
 have hsb:inB g w=true→∀r,o04 F g w r=s0x F g w r:=fun h r=>by
  unfold s0x
  by_cases h2:r.code=0
  ·rw[if_neg (by simp[h2]),if_pos h]
  ·rw[if_pos h2,o04,if_pos h2]
 generalize hT:r0j F g w n.toNat r=T at *
 generalize hW:wRun r=W at *
 refine Prun c_160 (by simp[l1u]) (by simp) ?_
 (conv in d16=>reduce); unfold l1u
 obtain⟨c1,c2,c3,c4,ss,⟨ns⟩,es⟩:=r
 obtain⟨ps⟩:=g
 simp only[sRun,rRun] at hcp
 simp only at s0 s1
 simp only[z0b] at hst hgd
 simp[z0b,sRun]
 refine z00 hcp (by simp) ?_
 simp
 by_cases k1:c1=0
 case neg=>
  simp[k1]
  have e:=s0 (.inl k1)
  rw[e]; rfl
 subst k1
 by_cases k2:n≤0
 ·simp[k2]
  have e:=s0 (.inr k2)
  rw[e]; rfl
 simp[k2]
 refine z00 hin (by simp) ?_
 cases k3:y08 w with
 | false=>
   simp
   have e:=s1 rfl (by omega) (by simp[inB,k3])
   rw[e]; rfl
 | true=>
 simp
 refine z00 hgd (by simp) ?_
 by_cases k4:y09 ⟨ps⟩=0
 case neg=>
  simp[k4]
  have e:=s1 rfl (by omega) (by simp[inB,k3,k4])
  rw[e]; rfl
 have hsb:=hsb (by simp[inB,k3,k4])
 simp[k4]
 refine z04 (g1v F ⟨ps⟩ w n W T) 601 ⟨0,_,hup,by omega,hT,by simp[rRun]⟩ ?_
 clear hup hT hcp hlk hsl s0 s1 hin hgd
 rintro k σ ⟨i,r,hup,rfl,hT,rfl⟩
 have hi:=hup.le
 have hw:=hup.w
 have hst:=hst r 61 k4 k3 (by omega) hup.look hup.slots
 have wc:IntKind.i64.wrap ((i:Int)+1)=i+1:=z08 (by omega) (by omega)
 have hnx:=fun hc=>e0x (F:=F) (g:=⟨ps⟩) (w:=w) hup (by omega) hc
 rw[hsb] at hst
 clear hsb
 by_cases c1:(i:Int)<n
 ·by_cases c2:r.code=0
  ·have hnx2:=hnx c2
   clear hnx
   rw[o0p c2 (by omega)] at hT
   have hc:=hup.c c2
   have hi2:i<601:=by by_cases h0:1≤i <;> omega
   generalize s0x F ⟨ps⟩ w r=r2 at *
   obtain⟨d1,d2,d3,d4,ss2,⟨ns2⟩,es2⟩:=r
   simp only at c2
   subst c2
   simp only[rRun] at hst
   simp[c1,rRun]
   refine z0e hst rfl rfl (.inl rfl) (by simp) ?_
   simp[wc]
   exact⟨601 - (i+1),by omega,i+1,r2,hnx2,rfl,by rw[← hT]; congr 1,by simp[rRun,wc]⟩
  ·rw[r0z c2] at hT
   subst hT
   simp[c1,rRun,c2]
 ·have e:n.toNat - i=0:=by omega
  rw[e,r0j] at hT
  subst hT
  simp[c1,rRun]
end
end Go.Am
