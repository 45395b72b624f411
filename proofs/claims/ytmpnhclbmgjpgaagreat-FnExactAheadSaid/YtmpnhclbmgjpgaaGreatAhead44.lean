/- Text 44 for FnExactAhead. -/
import Derived.Test.YtmpnhclbmgjpgaaGreatAhead43
set_option linter.unusedVariables false
set_option linter.unusedSimpArgs false
namespace Go.Am
open Go.Proofs
set_option maxHeartbeats 4000000
set_option maxRecDepth 100000
attribute [-simp] BitVec.toNat_or BitVec.toNat_and BitVec.toNat_ofInt
section
theorem wrap2 (n:Int):IntKind.i64.wrap (IntKind.i64.wrap n)=IntKind.i64.wrap n:=by
 simp[IntKind.wrap,IntKind.bits,IntKind.signed]
 omega
def f0t (F:FarF) (gs:List TGram) (n:Int) (j:TJob):Int:=
 IntKind.i64.wrap (IntKind.i64.wrap (n+max (IntKind.i64.wrap ((allF F (gs.getD j.gram.toNat default) j.input).cost - j.run.cost)) 0)+(if decide ((allF F (gs.getD j.gram.toNat default) j.input).code=2)=true then 1 else 0))
def sumF (F:FarF) (gs:List TGram):List TJob→Int→Int
 | [],n=>n
 | j :: js,n=>sumF F gs js (f0t F gs n j)
def t0h (F:FarF) (gs:List TGram) (k:Int):List TJob→Int→Int
 | [],_=> -1
 | j :: js,n=>if j.ticket=k then f0t F gs n j else t0h F gs k js (f0t F gs n j)
noncomputable def g09 (F:FarF) (h:THouse) (t k:Int):Int:=if v0p h then (match b00 h.tenants t with
 | some x=>t0h F h.grams k x.queue 0
 | none=> -1) else -1
theorem g08 (F:FarF) (gs:List TGram) (k:Int): ∀(q:List TJob) (n m:Int),0≤m→t0h F gs k q n=if x0l (pJ k) q m<0 then -1 else sumF F gs (q.take ((x0l (pJ k) q m - m).toNat+1)) n
 | [],n,m,hm=>by simp[t0h,x0l]
 | j :: q,n,m,hm=>by
   rw[t0h,x0l]
   by_cases c:j.ticket=k
   ·have h1:pJ k j=true:=by simp[pJ,c]
    have h2: ¬m<0:=by omega
    simp[c,h1,h2,sumF]
   ·have h1:pJ k j=false:=by simp[pJ,c]
    rw[if_neg c,g08 F gs k q _ (m+1) (by omega)]
    simp only[h1,Bool.false_eq_true,if_false]
    rcases i0q (p:=pJ k) q (m+1) with h | ⟨i,hi,_⟩
    ·rw[h]; simp
    ·rw[hi]
     have h3: ¬m+1+(i:Int)<0:=by omega
     have h4:(m+1+(i:Int) - m).toNat=i+1:=by omega
     have h5:(m+1+(i:Int) - (m+1)).toNat=i:=by omega
     rw[if_neg h3,if_neg h3,h4,h5,List.take_succ_cons,sumF]
theorem d03 {F:FarF} {gs:List TGram} {k:Int} {q:List TJob} {i:Nat} (h:i<q.length) (n:Int):t0h F gs k (q.drop i) n=if q[i].ticket=k then f0t F gs n q[i] else t0h F gs k (q.drop (i+1)) (f0t F gs n q[i]):=by
 rw[List.drop_eq_getElem_cons h]; rfl
theorem s1j {F:FarF} {gs:List TGram} {q:List TJob} {i:Nat} (h:i<q.length) (n:Int):sumF F gs (q.drop i) n=sumF F gs (q.drop (i+1)) (f0t F gs n q[i]):=by
 rw[List.drop_eq_getElem_cons h]; rfl
def k_10:K:=dc 0x1060790410402190590b96001182000c10c4186e015a81c0081005e025681380f82c45280804e80b8001092a09006101007078051a00e34004428dc116814fa04e762c43a8d4004236828018ca33b0010ba00e72084a052a8c6e044268c00042228bc3187a090c61a8b40042168283184a0700f380200aca0072fc283daa043172ac10c28ea0430000000000000000001c75684820e8aa8083a050a8a40042068242180a270410a79a40479a50010a52411a48c00428c308624a00c02224028bf090f6a810c5cab0430a3a810c00000000000000000010c10c000000000a297a128a104a0a181f28780801f78004279d20675c6ca1dc0406da00109a0c418b0400450001835c25d63cd1165435540010944c81934912874810114000424031063c8009040000dc81c30811881c3081147005200e410410001c0e4104100310607904104038238d24d30b082a0530100b0c1142101000180e410c0161202040
def r_10:Nat×List RV:=(63,[.t 6])
theorem c_10:z01 PA 10 r_10 k_10:=by unfold z01; kernel_rfl
theorem f04 {F:FarF} (hF:s0e F) (h:THouse) (t k:Int) (hw:v07 h<2 ^ 31) (hl:s07 h):z06 Tryz.prog 10 [.agg (z0o h),aI t,aI k] (aI (g09 F h t k)):=by
 refine Prun c_10 (by simp[r_10]) (by simp) ?_
 (conv in k_10=>reduce); unfold r_10
 have hok:=n1m h t hw hl
 have hp:=fun h1=>(q0n (h:=h)).1 h1
 have hra:=fun (gi:Nat) (hgi:gi<h.grams.length) w=>h03 hF h.grams[gi] w (by have:=z0x z0q h.grams gi hgi; simp only[v07] at hw; omega) (hl.1.2 gi hgi)
 simp only[g09]
 generalize v0p h=T at *
 obtain⟨age,cap,gs,ss,ts⟩:=h
 simp only at hra
 simp only[z0o] at hok
 simp[z0o]
 refine z00 hok (by simp) ?_
 cases T with
 | false=>simp
 | true=>
   cases c:inr t 0 ((ts.length:Int) - 1) with
   | false=>simp[z1c c]
   | true=>
     obtain⟨j,hj,rfl⟩:=v1y c
     have htk:=p03 ((hp rfl).tn _ (List.getElem_mem hj))
     have htj:=n0a ((hp rfl).tn _ (List.getElem_mem hj))
     have hjb:=(hp rfl).jb _ (List.getElem_mem hj)
     rw[e0v hj]
     obtain⟨x,hx⟩: ∃x,ts[j]=x:=⟨_,rfl⟩
     simp only[hx] at htk htj hjb ⊢
     have hql:x.queue.length≤4:=by omega
     obtain⟨t0,t1,t2,t3,t4,t5,t6,t7,q,o⟩:=x
     simp only at hql htj hjb
     obtain⟨R,hR⟩: ∃R,t0h F gs k q 0=R:=⟨_,rfl⟩
     have hR0:t0h F gs k (q.drop 0) 0=R:=hR
     simp only[hR]
     simp
     clear htk hp hok hw hl c
     refine z04 (fun n σ=>∃(i:Nat) (s:Int),i≤q.length∧n=q.length - i∧t0h F gs k (q.drop i) s=R∧σ=⟨[(1,aI j),(2,aI k),(3,.one (.pt 5 3 [] 0 0)),(7,aI s),(8,aI i)],[(3,⟨33,5,[z0o ⟨age,cap,gs,ss,ts⟩]⟩)]⟩) q.length ⟨0,0,by omega,rfl,hR0,by simp[z0o]⟩ ?_
     clear hR hR0
     rintro n σ ⟨i,s,hi,rfl,hR,rfl⟩
     by_cases h:i<q.length
     ·rw[d03 h] at hR
      have wi:IntKind.i64.wrap ((i:Int)+1)=i+1:=z08 (by omega) (by omega)
      have htj:=htj _ (List.getElem_mem h)
      have hjb:=hjb _ (List.getElem_mem h)
      obtain⟨u,hu⟩: ∃u,q[i]=u:=⟨_,rfl⟩
      rw[hu] at hR
      simp only[hu] at htj hjb
      obtain⟨u0,u1,u2,⟨v0,v1,v2,v3,v4,⟨v5⟩,v6⟩⟩:=u
      obtain⟨gn,rfl⟩: ∃gn:Nat,u1=gn:=⟨u1.toNat,by simp only at htj; omega⟩
      simp only at hjb
      have hgn:gn<gs.length:=by omega
      have hra:=hra gn hgn u2
      simp only[f0t,Int.toNat_natCast,List.getD_eq_getElem?_getD,List.getElem?_eq_getElem hgn,Option.getD_some] at hR
      obtain⟨g,hg⟩: ∃g,gs[gn]=g:=⟨_,rfl⟩
      rw[hg] at hra hR
      generalize allF F g u2=A at *
      obtain⟨ps⟩:=g
      simp only[z0b,rRun] at hra
      simp[z0o,hj,hx,z07,h,hu,sJob,hgn,hg,z0b]
      refine z00 hra (by simp) ?_
      simp
      refine⟨_,by simp,i0y _ _,?_⟩
      try simp
      refine⟨_,by simp,i0x _,?_⟩
      by_cases c1:u0=k
      ·rw[if_pos c1] at hR
       subst hR
       simp[c1]
      ·rw[if_neg c1] at hR
       simp[c1]
       simp only[decide_eq_true_eq] at hR
       exact⟨q.length - (i+1),by omega,i+1,by omega,rfl,_,hR,rfl,by rw[wi]; simp⟩
     ·have:i=q.length:=by omega
      subst this
      rw[List.drop_length] at hR
      subst hR
      simp[z0o,hj,hx,z07,t0h]
def k_50:K:=dc 0x418ae016a8240081024278019a02e640040810c9238058a02e47e00117a09003046e025a81391782c4568138001094a0c0060c10090f8053a02e330044a803907805f468038d41110a3700108fa360c63a82c318da3400108ca0c0c62e82402810323001cbf0c0f6a810c5cab0430a3a810c00000000000000000071d5a1208aa31bc2129149a30001088a0b0861e8b810421a8b6b047168b000421282c1183a2a001082a29086068a0d0280002cc00c0272c028bf0b0f6a810c5cab0430a3a810c00000000000000000010c10c000000000a297a129e604a0a69222871010011400060e508096390d1010400372470049238890051c01640390238838a10407ca5a10b98001202007de00109e74819d70d7070090400090390410400c4181e4104101b09b03968d11a200081000219059617083a456020171c010100758159550a1d504051300109348419244d4400070400c4181e410410100903c93ce3420a914e040340004040006039041040
def r_50:Nat×List RV:=(67,[.t 6])
theorem c_50:z01 PA 50 r_50 k_50:=by unfold z01; kernel_rfl
theorem n1e {F:FarF} (hF:s0e F) (h:THouse) (t k:Int) (hp:HouseOk h) (hw:v07 h<2 ^ 31) (hl:s07 h):z06 Tryz.prog 50 [.one (.ps (z0o h)),aI t,aI k] (aI (match b00 h.tenants t with
 | some x=>t0h F h.grams k x.queue 0
 | none=> -1)):=by
 have hit:=y14 h t hp.nt
 have hjo:=fun (i:Nat) (hk:i<h.tenants.length)=>n1k h.tenants[i] k (by have:=p03 (hp.tn _ (List.getElem_mem hk)); omega)
 have hra:=fun (gi:Nat) (hgi:gi<h.grams.length) w hwl=>i0w hF h.grams[gi] w (by have:=z0x z0q h.grams gi hgi; simp only[v07] at hw; omega) (hl.1.2 gi hgi) hwl
 refine Prun c_50 (by simp[r_50]) (by simp) ?_
 (conv in k_50=>reduce); unfold r_50
 obtain⟨age,cap,gs,ss,ts⟩:=h
 simp only at hra hjo
 simp only[z0o] at hit
 simp[z0o]
 refine z00 hit (by simp) ?_
 cases c:inr t 0 ((ts.length:Int) - 1) with
 | false=>simp[z1c c]
 | true=>
   obtain⟨i,hk,rfl⟩:=v1y c
   have htk:=p03 (hp.tn _ (List.getElem_mem hk))
   have htj:=n0a (hp.tn _ (List.getElem_mem hk))
   have hjb:=hp.jb _ (List.getElem_mem hk)
   have hjo:=hjo i hk
   rw[e0v hk]
   obtain⟨x,hx⟩: ∃x,ts[i]=x:=⟨_,rfl⟩
   simp only[hx] at hjo htk htj hjb ⊢
   have hF2:=i0q (p:=pJ k) x.queue 0
   have hai:=g08 F gs k x.queue 0 0 (by omega)
   rw[show x0l (pJ k) x.queue 0=q1j x k from rfl] at hF2 hai
   have hql:x.queue.length≤4:=by omega
   generalize t0h F gs k x.queue 0=T at *
   generalize q1j x k=Fi at *
   obtain⟨x0,x1,x2,x3,x4,x5,x6,x7,q,o⟩:=x
   simp only[z07] at hjo
   simp only at hql htj hjb hF2 hai
   clear htk hp hw hl c hit
   simp[hk,hx,z07]
   refine z00 hjo (by simp) ?_
   rcases hF2 with rfl | ⟨j,rfl,hj⟩
   ·rw[if_pos (by omega)] at hai
    subst hai
    simp
   ·rw[if_neg (by omega),show ((0:Int)+j - 0).toNat+1=j+1 by omega] at hai
    have nj: ¬(j:Int)<0:=by omega
    have wj:IntKind.i64.wrap ((j:Int)+1)=j+1:=z08 (by omega) (by omega)
    have lj:(j:Int)+1≤q.length:=by omega
    have zj:(0:Int)≤j+1:=by omega
    have htk:List.take (j+1) (q.map sJob)=(q.take (j+1)).map sJob:=List.map_take.symm
    have hlk:(q.take (j+1)).length=j+1:=by rw[List.length_take]; omega
    have hsub: ∀u∈q.take (j+1),u∈q:=fun u hu=>List.mem_of_mem_take hu
    have htj:=fun u hu=>htj u (hsub u hu)
    have hjb:=fun u hu=>hjb u (hsub u hu)
    simp[nj,wj,hk,hx,z07,lj,zj,htk, -List.map_take, -List.length_take]
    generalize q.take (j+1)=p at *
    have hpl:p.length≤4:=by omega
    clear htk hjo hx hsub hlk
    obtain⟨R,hR⟩: ∃R,sumF F gs p 0=R:=⟨_,rfl⟩
    rw[hR] at hai
    subst hai
    have hR0:sumF F gs (p.drop 0) 0=T:=hR
    clear hR
    refine z04 (fun n σ=>∃(i:Nat) (s:Int),i≤p.length∧n=p.length - i∧sumF F gs (p.drop i) s=T∧σ=⟨[(0,.one (.ps (z0o ⟨age,cap,gs,ss,ts⟩))),(9,aI s),(34,.one (.ar false 0 10 (p.map sJob))),(35,aI p.length),(36,aI i)],[]⟩) p.length ⟨0,0,by omega,rfl,hR0,by simp[z0o]⟩ ?_
    clear hR0
    rintro n σ ⟨i,s,hi,rfl,hR,rfl⟩
    by_cases h:i<p.length
    ·rw[s1j h] at hR
     have wi:IntKind.i64.wrap ((i:Int)+1)=i+1:=z08 (by omega) (by omega)
     have htj:=htj _ (List.getElem_mem h)
     have hjb:=hjb _ (List.getElem_mem h)
     obtain⟨u,hu⟩: ∃u,p[i]=u:=⟨_,rfl⟩
     rw[hu] at hR
     simp only[hu] at htj hjb
     obtain⟨u0,u1,u2,⟨v0,v1,v2,v3,v4,⟨v5⟩,v6⟩⟩:=u
     obtain⟨gn,rfl⟩: ∃gn:Nat,u1=gn:=⟨u1.toNat,by simp only at htj; omega⟩
     simp only at hjb
     have hgn:gn<gs.length:=by omega
     have hra:=hra gn hgn u2 (by have h9:=x0z htj.1; simp only at h9; omega)
     simp only[f0t,Int.toNat_natCast,List.getD_eq_getElem?_getD,List.getElem?_eq_getElem hgn,Option.getD_some] at hR
     obtain⟨g,hg⟩: ∃g,gs[gn]=g:=⟨_,rfl⟩
     rw[hg] at hra hR
     generalize allF F g u2=A at *
     obtain⟨ps⟩:=g
     simp only[z0b,rRun] at hra
     simp[z0o,h,hu,sJob,hgn,hg,z0b]
     refine z00 hra (by simp) ?_
     simp
     have hmx: ∀w:Int,max w 0=if w<0 then 0 else w:=fun w=>by split <;> omega
     rw[hmx] at hR
     generalize IntKind.i64.wrap (A.cost - v3)=z at *
     by_cases c1:A.code=2
     ·simp only[c1,decide_true,if_true] at hR
      simp[c1]
      exact⟨p.length - (i+1),by omega,i+1,by omega,rfl,_,hR,rfl,by rw[wi]; simp⟩
     ·simp only[c1,decide_false,Bool.false_eq_true,if_false,Int.add_zero,wrap2] at hR
      simp[c1]
      exact⟨p.length - (i+1),by omega,i+1,by omega,rfl,_,hR,rfl,by rw[wi]; simp⟩
    ·have:i=p.length:=by omega
     subst this
     rw[List.drop_length] at hR
     subst hR
     simp[sumF]
def k_12:K:=dc 0x10630130b2830caa052c200a0401010031060790410402422482481c12681470c11420c1000180e410c0161202040
def r_12:Nat×List RV:=(13,[.t 6])
theorem c_12:z01 PA 12 r_12 k_12:=by unfold z01; kernel_rfl
theorem g0y {F:FarF} (hF:s0e F) (h:THouse) (t k:Int) (hw:v07 h<2 ^ 31) (hl:s07 h):z06 Tryz.prog 12 [.agg (z0o h),aI t,aI k] (aI (g09 F h t k)):=by
 refine Prun c_12 (by simp[r_12]) (by simp) ?_
 (conv in k_12=>reduce); unfold r_12
 have hok:=k04 h hw hl
 have hah:=fun h1=>n1e hF h t k ((q0n (h:=h)).1 h1) hw hl
 simp only[g09]
 generalize v0p h=T at *
 generalize (match b00 h.tenants t with
 | some x=>t0h F h.grams k x.queue 0
 | none=> -1)=R at *
 obtain⟨age,cap,gs,ss,ts⟩:=h
 simp only[z0o] at hok hah
 simp[z0o]
 refine z00 hok (by simp) ?_
 cases T with
 | false=>simp
 | true=>
   have hah:=hah rfl
   simp
   refine z00 hah (by simp) ?_
   simp
end
section
def k_3:K:=dc 0x41bb0410400c41ba0410408828a126181e08d1607c12c57c304509e2411421420410020c0240003106e8104101d09d71b30470801b2800c100029a05a6585c33056420180405c90450850405890052fc24a0a80430b3a410c16a804300000000014585259504b1550c11421010085015134910ca1530804810114012c54030450860400c41bb0410403c23c0e4e34438700204000734134c2c224530700b0c114210100720000013fe41041006e810c015a202040
def r_3:Nat×List RV:=(35,[.t 6])
theorem c_3:z01 PA 3 r_3 k_3:=by unfold z01; kernel_rfl
theorem c00 (a:THouse) (hla:s07 a) (t k:Int):z06 Tryz.prog 3 [.agg (z0o a),aI t,aI k] (aB true):=by
 refine Prun c_3 (by simp[r_3]) (by simp) ?_
 (conv in k_3=>reduce); unfold r_3
 obtain⟨F,hF⟩:=f1e
 have hsz1:=v1k a 1048576 hla (by omega) (by omega)
 simp[z0o]
 refine z00 hsz1 (by simp) ?_
 by_cases g1:(1048576:Int)<(v07 a:Int)
 ·simp[z0j g1]
 have e1:lft 1048576 (v07 a)=1048576 - v07 a:=z0w (by omega)
 have n1: ¬(1048576:Int) - v07 a<0:=by omega
 simp[e1,n1]
 have hta:=v1r a (by omega)
 have hs:=f04 hF a t k (by omega) hla
 have hi:=g0y hF a t k (by omega) hla
 generalize g09 F a t k=T at *
 have hea:=v11 a (by omega)
 first | refine z00 hta (by simp) ?_ | refine z0c hta (by simp) ?_ | refine z0z hta (by simp) ?_ | refine z0e hta rfl rfl (by simp) (by simp) ?_ | refine⟨_,by simp,hta,?_⟩
 try simp[t0l]
 first | refine z00 hs (by simp) ?_ | refine z0c hs (by simp) ?_ | refine z0z hs (by simp) ?_ | refine z0e hs rfl rfl (by simp) (by simp) ?_ | refine⟨_,by simp,hs,?_⟩
 try simp[t0l]
 first | refine z00 hta (by simp) ?_ | refine z0c hta (by simp) ?_ | refine z0z hta (by simp) ?_ | refine z0e hta rfl rfl (by simp) (by simp) ?_ | refine⟨_,by simp,hta,?_⟩
 try simp[t0l]
 first | refine z00 hi (by simp) ?_ | refine z0c hi (by simp) ?_ | refine z0z hi (by simp) ?_ | refine z0e hi rfl rfl (by simp) (by simp) ?_ | refine⟨_,by simp,hi,?_⟩
 try simp[t0l]
 first | refine z00 hta (by simp) ?_ | refine z0c hta (by simp) ?_ | refine z0z hta (by simp) ?_ | refine z0e hta rfl rfl (by simp) (by simp) ?_ | refine⟨_,by simp,hta,?_⟩
 try simp[t0l]
 first | refine z00 hea (by simp) ?_ | refine z0c hea (by simp) ?_ | refine z0z hea (by simp) ?_ | refine z0e hea rfl rfl (by simp) (by simp) ?_ | refine⟨_,by simp,hea,?_⟩
 try simp[t0l]
end
end Go.Am
