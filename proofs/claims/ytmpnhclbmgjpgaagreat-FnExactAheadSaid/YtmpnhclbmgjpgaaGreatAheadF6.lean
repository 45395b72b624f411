/- FRAMEWORK, text 6: slices.Insert, Clone, Delete: contracts at any element width. Proved once, for every program; no condition. -/
import Derived.Test.YtmpnhclbmgjpgaaGreatAheadF5
import Derived.Shelf.Spec.SlicesInsertGrow
import Derived.Shelf.SlGeneric
import Derived.Deep.RegionLaw
import Derived.Shelf.Spec.SlicesGrow
set_option linter.unusedVariables false
set_option linter.unusedSimpArgs false
namespace Go.AmL
open Go.Proofs Go.Shelf Go.RowKit Go.Lib
variable {P:Program} {ρ:Shelf.Ren}
theorem v0g (w:World) (dT sT ty elem:TypeId) (e:Nat) (b o dLen dCap:Nat) (a:Addr) (sLen sCap:Nat) (cs:List Value)
 (hu:P.underlying dT=some (.slice elem)) (hs:(P.info? elem).map (·.size)=some e) (hn:cs.length=Nat.min sLen dLen*e)
 (hsrc: ∀j v,cs[j]?=some v→w.cell? (a.add j)=some v) (hc: ∀j,j<cs.length→(w.cell? ⟨b,o+j,none⟩).isSome=true) (hf: ∀j,j<cs.length→w.frozen? ⟨b,o+j,none⟩=false) (h1: ∀v∈cs,v.oneCell'=true) :
 (Builtin.copy_ #[dT,sT] ty #[.slice (some ⟨b,o,none⟩) dLen dCap,.slice (some a) sLen sCap]).run P w = .ok (goInt (Nat.min sLen dLen)) (w.setCells b o cs):=by
 have hst:=run_storeCells_cells (P:=P) b o cs 0 w (by simpa using hc) (by simpa using hf) h1
 cases hq:P.info? elem with
 | none=>simp[hq] at hs
 | some i=>
   have hi:i.size=e:=by simpa [hq] using hs
   have hl:=run_firstCells_some (P:=P) w e (Nat.min sLen dLen) a sLen sCap cs hn hsrc
   simp[Builtin.copy_,run_underlying hu,Builtin.lenOf,sizeOf,typeInfo,hq,hi,hl,hst]
theorem h0s {w:World} {b k:Nat} {cur:Array Value} {t:TypeId} {fr:Nat×Nat} (hb:w.heap[b]?=some (.cells cur t fr)) (v:Value) :
 (w.setCell ⟨b,k,none⟩ v).heap[b]?=some (.cells (cur.setIfInBounds k v) t fr):=by
 simp only[World.setCell,Array.getElem?_modify,if_true,hb,Option.map_some]
 rfl
theorem w0z {b:Nat} {t:TypeId} {fr:Nat×Nat}: ∀(vs:List Value) (o:Nat) (w:World) (cur:Array Value),w.heap[b]?=some (.cells cur t fr)→o+vs.length≤cur.size→
 ∃cur',(w.setCells b o vs).heap[b]?=some (.cells cur' t fr)∧cur'.toList=cur.toList.take o ++ vs ++ cur.toList.drop (o+vs.length)
 | [],o,w,cur,hb,_=>⟨cur,hb,by simp⟩
 | v :: r,o,w,cur,hb,hl=>by
   simp only[List.length_cons] at hl
   obtain⟨cur',h1,h2⟩:=w0z r (o+1) (w.setCell ⟨b,o,none⟩ v) (cur.setIfInBounds o v) (h0s hb v) (by simp; omega)
   refine⟨cur',h1,?_⟩
   rw[h2]
   have ho:o<cur.toList.length:=by simp; omega
   simp only[Array.toList_setIfInBounds,List.length_cons]
   rw[List.take_set,List.drop_set]
   rw[if_pos (by omega)]
   rw[List.take_succ_eq_append_getElem ho,List.set_append]
   simp only[List.length_take]
   rw[if_neg (by omega)]
   have:o - min o cur.toList.length=0:=by omega
   simp only[this,List.set_cons_zero]
   rw[show o+1+r.length=o+(r.length+1) by omega]
   simp
theorem v0j (b:Nat): ∀(vs:List Value) (o:Nat) (w:World),(w.setCells b o vs).tape=w.tape
 | [],_,_=>rfl
 | v :: r,o,w=>v0j b r (o+1) (w.setCell ⟨b,o,none⟩ v)
theorem v0i (b:Nat): ∀(vs:List Value) (o:Nat) (w:World),(w.setCells b o vs).heap.size=w.heap.size
 | [],_,_=>rfl
 | v :: r,o,w=>by rw[World.setCells,v0i b r (o+1) (w.setCell ⟨b,o,none⟩ v)]; simp[World.setCell]
theorem t0c (b:Nat): ∀(vs:List Value) (o:Nat) (w:World),(w.setCells b o vs).os=w.os
 | [],_,_=>rfl
 | v :: r,o,w=>t0c b r (o+1) (w.setCell ⟨b,o,none⟩ v)
theorem w0k (b:Nat): ∀(vs:List Value) (o:Nat) (w:World),(w.setCells b o vs).output=w.output
 | [],_,_=>rfl
 | v :: r,o,w=>w0k b r (o+1) (w.setCell ⟨b,o,none⟩ v)
theorem v00 (b:Nat): ∀(vs:List Value) (o:Nat) (w:World) (k:Nat),k≠b→(w.setCells b o vs).heap[k]?=w.heap[k]?
 | [],_,_,_,_=>rfl
 | v :: r,o,w,k,hk=>by
   rw[World.setCells,v00 b r (o+1) (w.setCell ⟨b,o,none⟩ v) k hk]
   simp only[World.setCell,Array.getElem?_modify]
   rw[if_neg (fun h=>hk h.symm)]
structure LIns (P:Program) (ρ:Shelf.Ren) (e:Nat):Prop where
 mixed:P.follows .mixedOrders=true
 f22:Bears P (ρ.f 22) (Body2.n22 ρ)
 ov: ∃fn,P.funcs[ρ.f 29]?=some fn∧(fn.name == "runtime.NumGoroutine")=false∧fn.body.isNone=true∧Extern.findNext fn=none∧Extern.find fn=some (Extern.SlicesOverlaps.overlaps #[ρ.t 24,ρ.t 24] #[ρ.t 4])
 t3:P.underlying (ρ.t 3)=some (TypeDesc.int IntKind.i64)
 a3: ∀w,(isAgg (ρ.t 3)).run P w = .ok false w
 z3: ∀w,(Go.sizeOf (ρ.t 3)).run P w = .ok 1 w
 t4:P.underlying (ρ.t 4)=some (TypeDesc.bool)
 a4: ∀w,(isAgg (ρ.t 4)).run P w = .ok false w
 z4: ∀w,(Go.sizeOf (ρ.t 4)).run P w = .ok 1 w
 z9: ∀w,(Go.sizeOf (ρ.t 9)).run P w = .ok e w
 t24:P.underlying (ρ.t 24)=some (TypeDesc.slice (ρ.t 9))
 a24: ∀w,(isAgg (ρ.t 24)).run P w = .ok false w
 z24: ∀w,(Go.sizeOf (ρ.t 24)).run P w = .ok 1 w
 i9: ∃i z,P.info? (ρ.t 9)=some i∧i.zero=some z∧i.size=e∧i.bytes≤16384∧z.cells.size=e
 he:0<e
set_option maxHeartbeats 4000000 in
theorem u11 {e:Nat} (L:LIns P ρ e) (b n c i vb vc:Nat) (cs vs:List Value) (w:World) (hi:i<n) (hroom:n+1≤c) (hc63:c≤9223372036854775807) (hvb:vb≠b)
 (hcl:cs.length=n*e) (hvl:vs.length=e)
 (hcs: ∀j v,cs[j]?=some v→w.cell? ⟨b,j,none⟩=some v) (hsp: ∀j,j<(n+1)*e→(w.cell? ⟨b,j,none⟩).isSome=true) (hfz: ∀j,j<(n+1)*e→w.frozen? ⟨b,j,none⟩=false)
 (hvs: ∀j v,vs[j]?=some v→w.cell? ⟨vb,j,none⟩=some v) (h1c: ∀v∈cs,v.oneCell'=true) (h1v: ∀v∈vs,v.oneCell'=true)
 (tA tB:TypeId) (kA kB:Nat) (hsa:w.shape? vb=some (tA,kA)) (hsb:w.shape? b=some (tB,kB)) (hkB:kB≠0) (hfa:w.frozen? ⟨vb,0,none⟩=false) (hfe:w.frozen? ⟨vb,kA,none⟩=false) :
 Calls P (ρ.f 22) #[.slice (some ⟨b,0,none⟩) n c,.int .i64 i,.slice (some ⟨vb,0,none⟩) 1 vc] w fun ex w'=>
  ex = .returned (.slice (some ⟨b,0,none⟩) (n+1) c)∧w'=(w.drew.setCells b (i*e+e) (cs.drop (i*e))).setCells b (i*e) vs:=by
 have t3:=L.t3; have a3:=L.a3; have z3:=L.z3; have t4:=L.t4; have a4:=L.a4; have z4:=L.z4; have z9:=L.z9; have t24:=L.t24; have a24:=L.a24; have z24:=L.z24
 have u3:=run_underlying L.t3; have u4:=run_underlying L.t4; have u24:=run_underlying L.t24
 have he:=L.he
 obtain⟨fo,ov1,ov2,ov3,ov4,ov5⟩:=L.ov
 obtain⟨i9,zv,hi9,hz9,hs9,hb9,hzc⟩:=L.i9
 have hz2: ¬((i:Int)=(n:Int)):=by omega
 have hsz:(P.info? (ρ.t 9)).map (·.size)=some e:=by rw[hi9]; simp[hs9]
 have hov: ∀lb cb,(callFunc (ρ.f 29) #[.slice (some ⟨vb,0,none⟩) 1 vc,.slice (some ⟨b,i*e+e,none⟩) lb cb]).run P w = .ok (.value (.bool false)) w:=fun lb cb=>by
  rw[run_callFunc_extern ov1 ov2 ov3 ov4 ov5,
   Lib.run_overlaps_apart w (ρ.t 24) (ρ.t 4) (ρ.t 9) L.t24 e L.z9 ⟨vb,0,none⟩ ⟨b,i*e+e,none⟩ 1 vc lb cb hvb tA tB kA kB hsa hsb hkB hfa hfe]
  rfl
 have hdl:(cs.drop (i*e)).length=(n - i)*e:=by rw[List.length_drop,hcl,Nat.sub_mul]
 have hie:i*e+e≤n*e:=by have:=Nat.mul_le_mul_right e hi; rw[Nat.succ_mul] at this; exact this
 have hne:(n+1)*e=n*e+e:=by rw[Nat.succ_mul]
 have hnie:(n - i)*e=n*e - i*e:=Nat.sub_mul n i e
 have mixed:=L.mixed
 have hw1:IntKind.i64.wrap ((i:Int)+1)=(i:Int)+1:=by rw[IntKind.wrap_i64]; omega
 have hb1:(0:Int)≤(i:Int)+1:=by omega
 have hin:i≤n:=by omega
 have htn:((i:Int)+1).toNat=i+1:=by omega
 have hb2: ¬(c=i+1):=by omega
 have hb3:(i:Int)≤(n:Int)+1:=by omega
 have hb4: ¬(c=i):=by omega
 have hcp1: ∀ty dc sc,(Builtin.copy_ #[(ρ.t 24),(ρ.t 24)] ty #[.slice (some ⟨b,i*e+e,none⟩) (n - i) dc,.slice (some ⟨b,i*e,none⟩) (n+1 - i) sc]).run P w.drew = .ok (goInt (Nat.min (n+1 - i) (n - i))) (w.drew.setCells b (i*e+e) (cs.drop (i*e))):=fun ty dc sc=>
  v0g w.drew _ _ ty (ρ.t 9) e b (i*e+e) (n - i) dc ⟨b,i*e,none⟩ (n+1 - i) sc (cs.drop (i*e)) L.t24 hsz (by rw[hdl]; congr 1; simp only[Nat.min_def]; split <;> omega)
   (fun j v hj=>by rw[Addr.add_lit]; exact hcs (i*e+j) v (by rwa [List.getElem?_drop] at hj))
   (fun j hj=>hsp _ (by rw[hdl] at hj; omega)) (fun j hj=>hfz _ (by rw[hdl] at hj; omega)) (fun v hv=>h1c v (List.mem_of_mem_drop hv))
 obtain⟨W1,hW1⟩: ∃W1,W1=w.drew.setCells b (i*e+e) (cs.drop (i*e)):=⟨_,rfl⟩
 have hsp1: ∀k,k<(n+1)*e→(W1.cell? ⟨b,k,none⟩).isSome=true:=fun k hk=>by
  rw[hW1]
  exact isSome_setCells b (cs.drop (i*e)) (i*e+e) w.drew (fun j hj=>hsp _ (by rw[hdl] at hj; omega)) _ (hsp k hk)
 have hcp2: ∀(W:World),(∀x,W.cell? x=W1.cell? x)→(∀x,W.frozen? x=W1.frozen? x)→∀ty dc,(Builtin.copy_ #[(ρ.t 24),(ρ.t 24)] ty #[.slice (some ⟨b,i*e,none⟩) (n+1 - i) dc,.slice (some ⟨vb,0,none⟩) 1 vc]).run P W = .ok (goInt (Nat.min 1 (n+1 - i))) (W.setCells b (i*e) vs):=fun W hWc hWf ty dc=>
  v0g W _ _ ty (ρ.t 9) e b (i*e) (n+1 - i) dc ⟨vb,0,none⟩ 1 vc vs L.t24 hsz (by rw[hvl,show Nat.min 1 (n+1 - i)=1 by simp only[Nat.min_def]; split <;> omega,Nat.one_mul])
   (fun j v hj=>by
     rw[Addr.add_lit,hWc,hW1,World.cell?_setCells_out b _ _ _ _ (fun h _=>absurd h hvb),Nat.zero_add]
     exact hvs j v hj)
   (fun j hj=>by rw[hWc]; exact hsp1 _ (by omega)) (fun j hj=>by rw[hWf,hW1,World.frozen?_setCells]; exact hfz _ (by omega)) h1v
 rw[← hW1] at hcp1
 obtain⟨nm,_,F22⟩:=L.f22
 go_enter F22,Body2.n22_ntmps ρ
 have hs1:(i+1)*e=i*e+e:=Nat.succ_mul i e
 go_wp2_with (simp only[hs1,hov])
 go_region_law_o (refine step_copy_runI rfl _ _ (ρ.t 24) (ρ.t 24) rfl _ _ (by simp[Act.eval,Act.put]) (by simp[Act.eval,Act.put]) (hcp1 _ _ _) ?_)
 go_wp2_with (at_builtin; refine wpList_copy_runI _ rfl _ _ (ρ.t 24) (ρ.t 24) rfl _ _ rfl rfl (hcp2 _ (fun _=>rfl) (fun _=>rfl) _ _) ?_)
 go_ret
 first | exact⟨rfl,rfl⟩ | exact⟨rfl,by rw[hW1]⟩
end Go.AmL
namespace Go.AmL
open Go.Proofs Go.Shelf Go.RowKit Go.Lib
variable {P:Program} {ρ:Shelf.Ren}
set_option maxHeartbeats 4000000 in
theorem n1w {e:Nat} (L:LIns P ρ e) (base:Option Addr) (n c vb vc:Nat) (w:World) (hnc:n≤c) (hmax:c≤9223372036854775807) (hb0:base=none→n=0) {v':Value} {w':World}
 (hrun:(Builtin.append_ #[ρ.t 24,ρ.t 24] (ρ.t 24) #[.slice base n c,.slice (some ⟨vb,0,none⟩) 1 vc]).run P w = .ok v' w') :
 Calls P (ρ.f 22) #[.slice base n c,.int .i64 n,.slice (some ⟨vb,0,none⟩) 1 vc] w fun ex w1=>ex = .returned v'∧w1=w':=by
 have t3:=L.t3; have a3:=L.a3; have z3:=L.z3; have t4:=L.t4; have a4:=L.a4; have z4:=L.z4; have z9:=L.z9; have t24:=L.t24; have a24:=L.a24; have z24:=L.z24
 have u3:=run_underlying L.t3; have u4:=run_underlying L.t4; have u24:=run_underlying L.t24
 have mixed:=L.mixed
 obtain⟨nm,_,F22⟩:=L.f22
 cases base with
 | none=>
   have:=hb0 rfl
   subst this
   go_enter F22,Body2.n22_ntmps ρ
   go_wp2_with (at_builtin; refine Lib.wpList_append_run _ rfl _ _ _ _ rfl _ _ rfl rfl _ _ hrun ?_)
   go_ret
   exact⟨rfl,rfl⟩
 | some a=>
   go_enter F22,Body2.n22_ntmps ρ
   go_wp2_with (at_builtin; refine Lib.wpList_append_run _ rfl _ _ _ _ rfl _ _ rfl rfl _ _ hrun ?_)
   all_goals (go_ret; exact⟨rfl,rfl⟩)
set_option maxHeartbeats 4000000 in
theorem q1i {e:Nat} (L:LIns P ρ e) (z:Value) (i9:TypeInfo) (hi9:P.info? (ρ.t 9)=some i9) (hz9:i9.zero=some z) (hs9:i9.size=e) (hb9:i9.bytes≤16384) (hzc:z.cells.size=e)
 (b n c i vb vc:Nat) (cs vs:List Value) (w:World) (hi:i<n) (hnc:n≤c) (hroom:c<n+1) (hn:n+1≤4294967296)
 (hcl:cs.length=n*e) (hvl:vs.length=e)
 (hcs: ∀j v,cs[j]?=some v→w.cell? ⟨b,j,none⟩=some v)
 (hvs: ∀j v,vs[j]?=some v→w.cell? ⟨vb,j,none⟩=some v) (h1c: ∀v∈cs,v.oneCell'=true) (h1v: ∀v∈vs,v.oneCell'=true) :
 Calls P (ρ.f 22) #[.slice (some ⟨b,0,none⟩) n c,.int .i64 i,.slice (some ⟨vb,0,none⟩) 1 vc] w fun ex w'=>
  ex = .returned (.slice (some ⟨w.heap.size,0,none⟩) (n+1) (grownCap w (n+1) c (ρ.t 9)))∧
  w'=(((w.alloc (.cells ((cs.take (i*e)).toArray ++ Builtin.zeroCells z.cells (n+1 - i) ++ Builtin.zeroCells z.cells (grownCap w (n+1) c (ρ.t 9) - (n+1))) (ρ.t 9))).drew.setCells w.heap.size (i*e) vs).drew).setCells w.heap.size (i*e+e) (cs.drop (i*e)):=by
 have t3:=L.t3; have a3:=L.a3; have z3:=L.z3; have t4:=L.t4; have a4:=L.a4; have z4:=L.z4; have z9:=L.z9; have t24:=L.t24; have a24:=L.a24; have z24:=L.z24
 have u3:=run_underlying L.t3; have u4:=run_underlying L.t4; have u24:=run_underlying L.t24
 have he:=L.he
 have mixed:=L.mixed
 have hz2: ¬((i:Int)=(n:Int)):=by omega
 have hz3:(c:Int)<(n:Int)+1:=by omega
 have hie:i*e+e≤n*e:=by have:=Nat.mul_le_mul_right e hi; rw[Nat.succ_mul] at this; exact this
 have hne:(n+1)*e=n*e+e:=by rw[Nat.succ_mul]
 have hnie:(n - i)*e=n*e - i*e:=Nat.sub_mul n i e
 have hsz:(P.info? (ρ.t 9)).map (·.size)=some e:=by rw[hi9]; simp[hs9]
 have hbw:b<w.heap.size:=block_lt_of_cell (hcs 0 _ (List.getElem?_eq_getElem (by omega)))
 have hvw:vb<w.heap.size:=block_lt_of_cell (hvs 0 _ (List.getElem?_eq_getElem (by omega)))
 have hkk:(n:Int)+1 - (i:Int)=((n+1 - i:Nat):Int):=by omega
 have hik:i+(n+1 - i)=n+1:=by omega
 have hbytes:(n+1)*i9.bytes≤140737488355328:=by
  have h1:(n+1)*i9.bytes≤4294967296*16384:=Nat.mul_le_mul hn hb9
  omega
 have hbytes2:(n+1 - i)*i9.bytes≤281474976710656:=by
  have h1:(n+1 - i)*i9.bytes≤4294967296*16384:=Nat.mul_le_mul (by omega) hb9
  omega
 have hold:(Builtin.firstCells i9.size i (.slice (some ⟨b,0,none⟩) i c)).run P w.drew = .ok (cs.take (i*e)).toArray w.drew:=by
  rw[hs9]
  exact run_firstCells_some w.drew e i ⟨b,0,none⟩ i c (cs.take (i*e)) (by rw[List.length_take]; omega) (fun j v hj=>by
   rw[Addr.add_lit,Nat.zero_add]
   rw[List.getElem?_take] at hj
   split at hj
   ·exact hcs j v hj
   ·cases hj)
 have hrz: ∀ty,(Builtin.append_ #[(ρ.t 24),(ρ.t 3)] ty #[.slice (some ⟨b,0,none⟩) i c,.int .i64 ((n:Int)+1 - (i:Int))]).run P w =
  .ok (.slice (some ⟨w.heap.size,0,none⟩) (n+1) (grownCap w (n+1) c (ρ.t 9))) (w.drew.alloc (.cells ((cs.take (i*e)).toArray ++ Builtin.zeroCells z.cells (n+1 - i) ++ Builtin.zeroCells z.cells (grownCap w (n+1) c (ρ.t 9) - (n+1))) (ρ.t 9))):=fun ty=>by
  have h:=Lib.run_append_grow_zeros w (ρ.t 24) (ρ.t 3) ty (ρ.t 9) i9 _ .i64 .i64 L.t24 L.t3 hi9 hz9 (some ⟨b,0,none⟩) i c (cs.take (i*e)) hold (n+1 - i) (by omega) (by omega) (by omega) (by omega) hbytes2 (by rw[hik]; exact growslice_fits hroom hbytes)
  rw[hik] at h
  rw[hkk]
  exact h
 obtain⟨G,hG⟩: ∃G,G=grownCap w (n+1) c (ρ.t 9):=⟨_,rfl⟩
 obtain⟨ROW,hROW⟩: ∃ROW:Array Value,ROW=(cs.take (i*e)).toArray ++ Builtin.zeroCells z.cells (n+1 - i) ++ Builtin.zeroCells z.cells (G - (n+1)):=⟨_,rfl⟩
 rw[← hG] at hrz ⊢
 rw[← hROW] at hrz ⊢
 have hRl:(n+1)*e≤ROW.size:=by
  have h1:(n+1 - i)*e=n*e+e - i*e:=by rw[Nat.sub_mul,hne]
  rw[hROW]
  simp[Builtin.zeroCells,hzc]
  omega
 obtain⟨W1,hW1⟩: ∃W1,W1=w.drew.alloc (.cells ROW (ρ.t 9)):=⟨_,rfl⟩
 rw[← hW1] at hrz
 have hN: ∀j,j<(n+1)*e→(W1.cell? ⟨w.heap.size,j,none⟩).isSome=true:=fun j hj=>by
  rw[hW1,World.cell?_alloc_at (w:=w.drew) ROW _ w.heap.size j rfl,Array.getElem?_eq_getElem (by omega)]; rfl
 have hNf: ∀j,W1.frozen? ⟨w.heap.size,j,none⟩=false:=fun j=>by rw[hW1]; exact World.frozen?_alloc_at (w:=w.drew) ROW _ w.heap.size j rfl
 have hOb: ∀j v,w.cell? ⟨b,j,none⟩=some v→W1.cell? ⟨b,j,none⟩=some v:=fun j v h=>by rw[hW1,World.cell?_alloc_past (w:=w.drew) _ b j hbw]; exact h
 have hOv: ∀j v,w.cell? ⟨vb,j,none⟩=some v→W1.cell? ⟨vb,j,none⟩=some v:=fun j v h=>by rw[hW1,World.cell?_alloc_past (w:=w.drew) _ vb j hvw]; exact h
 have hcpA: ∀(W:World),(∀x,W.cell? x=W1.cell? x)→(∀x,W.frozen? x=W1.frozen? x)→∀ty dc,(Builtin.copy_ #[(ρ.t 24),(ρ.t 24)] ty #[.slice (some ⟨w.heap.size,i*e,none⟩) (n+1 - i) dc,.slice (some ⟨vb,0,none⟩) 1 vc]).run P W = .ok (goInt (Nat.min 1 (n+1 - i))) (W.setCells w.heap.size (i*e) vs):=fun W hWc hWf ty dc=>
  v0g W _ _ ty (ρ.t 9) e w.heap.size (i*e) (n+1 - i) dc ⟨vb,0,none⟩ 1 vc vs L.t24 hsz (by rw[hvl,show Nat.min 1 (n+1 - i)=1 by simp only[Nat.min_def]; split <;> omega,Nat.one_mul])
   (fun j v hj=>by rw[Addr.add_lit,hWc,Nat.zero_add]; exact hOv _ v (hvs j v hj))
   (fun j hj=>by rw[hWc]; exact hN _ (by omega)) (fun j hj=>by rw[hWf]; exact hNf _) h1v
 have hGn:n+1≤G:=by rw[hG]; exact grownCap_ge w _ _ _
 have hG63:G≤9223372036854775807:=by
  have:=grownCap_le_maxLen w (n+1) c (ρ.t 9) (by unfold maxLen; omega)
  rw[← hG] at this
  unfold maxLen at this
  omega
 have hGi: ¬(G=i):=by omega
 have hGim: ¬(G=i+1):=by omega
 have hci: ¬(c=i):=by omega
 have hbN:b≠w.heap.size:=by omega
 have hdl:(cs.drop (i*e)).length=(n - i)*e:=by rw[List.length_drop,hcl,Nat.sub_mul]
 have hcpB: ∀(W:World),(∀x,W.cell? x=(W1.setCells w.heap.size (i*e) vs).cell? x)→(∀x,W.frozen? x=(W1.setCells w.heap.size (i*e) vs).frozen? x)→∀ty dc sc,(Builtin.copy_ #[(ρ.t 24),(ρ.t 24)] ty #[.slice (some ⟨w.heap.size,i*e+e,none⟩) (n - i) dc,.slice (some ⟨b,i*e,none⟩) (n - i) sc]).run P W = .ok (goInt (Nat.min (n - i) (n - i))) (W.setCells w.heap.size (i*e+e) (cs.drop (i*e))):=fun W hWc hWf ty dc sc=>
  v0g W _ _ ty (ρ.t 9) e w.heap.size (i*e+e) (n - i) dc ⟨b,i*e,none⟩ (n - i) sc (cs.drop (i*e)) L.t24 hsz (by rw[hdl]; congr 1; simp only[Nat.min_def]; split <;> omega)
   (fun j v hj=>by
     rw[Addr.add_lit,hWc,World.cell?_setCells_out _ _ _ _ _ (fun h _=>absurd h hbN)]
     exact hOb _ v (hcs (i*e+j) v (by rwa [List.getElem?_drop] at hj)))
   (fun j hj=>by rw[hWc]; exact isSome_setCells _ _ _ _ (fun t ht=>hN _ (by omega)) _ (hN _ (by rw[hdl] at hj; omega)))
   (fun j hj=>by rw[hWf,World.frozen?_setCells]; exact hNf _) (fun v hv=>h1c v (List.mem_of_mem_drop hv))
 subst hW1
 have hE1: ∀x,((w.alloc (.cells ROW (ρ.t 9))).drew).cell? x=(w.drew.alloc (.cells ROW (ρ.t 9))).cell? x:=fun x=>rfl
 have hE2: ∀x,((w.alloc (.cells ROW (ρ.t 9))).drew).frozen? x=(w.drew.alloc (.cells ROW (ρ.t 9))).frozen? x:=fun x=>rfl
 have hF1: ∀x,(((w.alloc (.cells ROW (ρ.t 9))).drew.setCells w.heap.size (i*e) vs).drew).cell? x=((w.drew.alloc (.cells ROW (ρ.t 9))).setCells w.heap.size (i*e) vs).cell? x:=fun x=>rfl
 have hF2: ∀x,(((w.alloc (.cells ROW (ρ.t 9))).drew.setCells w.heap.size (i*e) vs).drew).frozen? x=((w.drew.alloc (.cells ROW (ρ.t 9))).setCells w.heap.size (i*e) vs).frozen? x:=fun x=>rfl
 have hw1:IntKind.i64.wrap ((i:Int)+1)=(i:Int)+1:=by rw[IntKind.wrap_i64]; omega
 have hb1:(0:Int)≤(i:Int)+1:=by omega
 have hin:i≤n:=by omega
 have htn:((i:Int)+1).toNat=i+1:=by omega
 have hb3:(i:Int)≤(n:Int):=by omega
 obtain⟨nm,_,F22⟩:=L.f22
 clear hkk hik hold hROW hG hRl
 go_enter F22,Body2.n22_ntmps ρ
 go_wp2_with (first
  | (at_builtin; refine Lib.wpList_append_run _ rfl _ _ _ _ rfl _ _ rfl rfl _ _ (hrz _) ?_)
  | (at_builtin; refine wpList_copy_runI _ rfl _ _ (ρ.t 24) (ρ.t 24) rfl _ _ rfl rfl (hcpA _ hE1 hE2 _ _) ?_)
  | (at_builtin; refine wpList_copy_runI _ rfl _ _ (ρ.t 24) (ρ.t 24) rfl _ _ rfl rfl (hcpB _ (fun _=>rfl) (fun _=>rfl) _ _ _) ?_))
 go_region_law_o (refine step_copy_runI rfl _ _ (ρ.t 24) (ρ.t 24) rfl (.slice (some ⟨w.heap.size,i*e+e,none⟩) (n - i) (G - (i+1))) (.slice (some ⟨b,i*e,none⟩) (n - i) (c - i)) (by simp[Act.eval,Act.put,Nat.succ_mul]) (by simp[Act.eval,Act.put]) (hcpB _ hF1 hF2 (ρ.t 3) (G - (i+1)) (c - i)) ?_)
 go_wp2
 go_ret
 exact⟨rfl,rfl⟩
end Go.AmL
namespace Go.AmL
open Go.Proofs Go.Shelf Go.RowKit Go.Lib Go.Am
variable {P:Program} {ρ:Shelf.Ren}
theorem x13 {us vs:List Value} {ie e ne:Nat} (cur c1 c2:List Value) (hus:cur.take ne=us) (hvl:vs.length=e) (hie:ie≤ne) (hle:ne+e≤cur.length)
 (h1:c1=cur.take (ie+e) ++ us.drop ie ++ cur.drop (ie+e+(us.drop ie).length)) (h2:c2=c1.take ie ++ vs ++ c1.drop (ie+vs.length)) :
 c2.take (ne+e)=us.take ie ++ vs ++ us.drop ie:=by
 have hul:us.length=ne:=by rw[← hus,List.length_take]; omega
 subst h2 h1
 apply List.ext_getElem?
 intro k
 simp only[List.getElem?_take,List.getElem?_append,List.length_append,List.length_take,List.length_drop,List.getElem?_drop,← hus]
 repeat' split
 all_goals first
  | rfl
  | omega
  | (congr 1; omega)
  | (symm; apply List.getElem?_eq_none; omega)
  | skip
theorem z1l {e:Nat} (L:LIns P ρ e) (s:Value) (n vb vc:Nat) (us vs:List Value) (w:World) (ob:Option Nat) (hs:(ob=none∧n=0∧us=[]∧∃a,s = .slice a 0 0)∨(ob=s.ownBlock∧w.ownsRow 0 (ρ.t 9) e s n us))
 (hn:n+1≤4294967296) (hvl:vs.length=e) (hvs: ∀j v,vs[j]?=some v→w.cell? ⟨vb,j,none⟩=some v) (h1v: ∀v∈vs,v.oneCell'=true) :
 ∃v' w',(Builtin.append_ #[ρ.t 24,ρ.t 24] (ρ.t 24) #[s,.slice (some ⟨vb,0,none⟩) 1 vc]).run P w = .ok v' w'∧w'.ownsRow 0 (ρ.t 9) e v' (n+1) (us ++ vs)∧
  w.grownBy w' ob∧(v'.ownBlock=ob∨v'.ownBlock=some w.heap.size):=by
 obtain⟨i9,zv,hi9,hz9,hs9,hb9,hzc⟩:=L.i9
 have hbytes:(n+1)*i9.bytes≤140737488355328:=by
  have h1:(n+1)*i9.bytes≤4294967296*16384:=Nat.mul_le_mul hn hb9
  omega
 have main: ∀(v0:Value),w.ownsRow 0 (ρ.t 9) e v0 n us→_:=fun v0 hown=>run_append_own_at (P:=P) w 0 (ρ.t 24) (ρ.t 24) (ρ.t 9) i9 zv e i9.bytes L.t24 hi9 hz9 hs9 rfl hzc L.he v0 n us hown ⟨vb,0,none⟩ 1 vc vs (by omega)
  (fun j u hj=>by rw[Addr.add_lit,Nat.zero_add]; exact hvs j u hj) h1v (by simp only[maxLen]; omega) hbytes (Nat.zero_le _)
 rcases hs with⟨rfl,rfl,rfl,a,rfl⟩ | ⟨rfl,hown⟩
 rotate_left
 ·obtain⟨v',w',h1,h2,h3,_,h5⟩:=main s hown
  exact⟨v',w',h1,h2,h3,h5⟩
 ·obtain⟨v',w',h1,h2,h3,h4,h5⟩:=main (.slice none 0 0) ⟨by simp,.inl ⟨rfl,rfl⟩⟩
  refine⟨v',w',?_,h2,h3,h5⟩
  ·rw[r0h w (ρ.t 24) (ρ.t 24) (ρ.t 9) i9 L.t24 hi9 a ⟨vb,0,none⟩ 1 vc (by omega) (growslice_fits (by omega) (by simpa using hbytes))]
   exact h1
theorem n1x {e:Nat} (L:LIns P ρ e) (s v:Value) (n i:Nat) (us vs:List Value) (w:World) (ob:Option Nat) (hs:(ob=none∧n=0∧us=[]∧∃a,s = .slice a 0 0)∨(ob=s.ownBlock∧w.ownsRow 0 (ρ.t 9) e s n us)) (hownv:w.ownsRow 0 (ρ.t 9) e v 1 vs)
 (hd: ∀b,ob=some b→v.ownBlock≠some b) (hi:i≤n) (hn:n+1≤4294967296) (h1: ∀u∈us,u.oneCell'=true) (h1v: ∀u∈vs,u.oneCell'=true) :
 Calls P (ρ.f 22) #[s,.int .i64 i,v] w fun ex w'=>∃v',ex = .returned v'∧w'.ownsRow 0 (ρ.t 9) e v' (n+1) (us.take (i*e) ++ vs ++ us.drop (i*e))∧
  w.grownBy w' ob∧(v'.ownBlock=ob∨v'.ownBlock=some w.heap.size):=by
 have he:=L.he
 have hul:us.length=n*e:=by
  rcases hs with⟨_,rfl,rfl,_⟩ | ⟨_,h⟩
  ·simp
  ·exact h.1
 have hvl:vs.length=e:=by simpa using hownv.1
 rcases hownv.2 with⟨_,h0⟩ | ⟨vb,vc,vcur,rfl,_,hvb,hvc,_,hvs',hvt⟩
 ·omega
 have hvs: ∀j u,vs[j]?=some u→w.cell? ⟨vb,j,none⟩=some u:=fun j u hj=>by
  simp only[World.cell?,hvb]
  rw[← hvt] at hj
  rw[List.getElem?_take] at hj
  split at hj
  ·simpa using hj
  ·cases hj
 have hvbl:vb<w.heap.size:=(Array.getElem?_eq_some_iff.1 hvb).1
 by_cases hin:i=n
 ·subst hin
  obtain⟨v',w',k1,k2,k3⟩:=z1l L s i vb vc us vs w ob hs hn hvl hvs h1v
  have hsh: ∃base c,s = .slice base i c∧i≤c∧c≤9223372036854775807∧(base=none→i=0):=by
   rcases hs with⟨_,rfl,rfl,a,rfl⟩ | ⟨_,h⟩
   ·exact⟨_,_,rfl,by omega,by omega,fun _=>rfl⟩
   ·rcases h.2 with⟨rfl,rfl⟩ | ⟨g,cap,cur,rfl,_,_,h2,h3,_⟩
    ·exact⟨_,_,rfl,by omega,by omega,fun _=>rfl⟩
    ·simp only[maxLen] at h3
     exact⟨_,_,rfl,h2,by omega,by simp⟩
  obtain⟨base,c,rfl,h1,h2,h3⟩:=hsh
  refine (n1w L base i c vb vc w h1 h2 h3 k1).mono fun ex w1 h=>?_
  obtain⟨rfl,rfl⟩:=h
  rw[← hul,List.take_length,List.drop_length,List.append_nil]
  exact⟨v',rfl,k2,k3⟩
 ·have hlt:i<n:=by omega
  have hown:ob=s.ownBlock∧w.ownsRow 0 (ρ.t 9) e s n us:=by
   rcases hs with⟨_,rfl,_⟩ | h
   ·omega
   ·exact h
  obtain⟨hob,hown⟩:=hown
  rcases hown.2 with⟨_,h0⟩ | ⟨b,c,cur,rfl,_,hb,hnc,hmax,hsz,ht⟩
  ·omega
  have hbl:b<w.heap.size:=(Array.getElem?_eq_some_iff.1 hb).1
  have hob':ob=some b:=hob
  subst hob'
  have hne:vb≠b:=fun h=>hd b rfl (by simp[Value.ownBlock,h])
  have hie:i*e+e≤n*e:=by have:=Nat.mul_le_mul_right e hlt; rw[Nat.succ_mul] at this; exact this
  have hn1:(n+1)*e=n*e+e:=by rw[Nat.succ_mul]
  have hmx:=hmax
  simp only[maxLen] at hmx
  have hcs: ∀j u,us[j]?=some u→w.cell? ⟨b,j,none⟩=some u:=fun j u hj=>by
   simp only[World.cell?,hb]
   rw[← ht] at hj
   rw[List.getElem?_take] at hj
   split at hj
   ·simpa using hj
   ·cases hj
  by_cases hroom:n+1≤c
  ·have hc1:(n+1)*e≤cur.size:=by rw[hsz]; exact Nat.mul_le_mul_right e hroom
   refine (u11 L b n c i vb vc us vs w hlt hroom (by omega) hne hul hvl hcs (fun j hj=>by simp only[World.cell?,hb]; simp; omega)
    (fun j hj=>by simp[World.frozen?,hb]) hvs h1 h1v (ρ.t 9) (ρ.t 9) vcur.size cur.size (by simp[World.shape?,hvb]) (by simp[World.shape?,hb]) (by omega) (by simp[World.frozen?,hvb]) (by simp[World.frozen?,hvb])).mono fun ex w' h=>?_
   obtain⟨rfl,rfl⟩:=h
   have hdl:(us.drop (i*e)).length=n*e - i*e:=by rw[List.length_drop,hul]
   obtain⟨c1,k1,k2⟩:=w0z (us.drop (i*e)) (i*e+e) w.drew cur hb (by rw[hdl]; omega)
   have hc1s:c1.size=cur.size:=by
    have:=congrArg List.length k2
    simp only[Array.length_toList,List.length_append,List.length_take,List.length_drop] at this
    omega
   obtain⟨c2,k3,k4⟩:=w0z vs (i*e) (w.drew.setCells b (i*e+e) (us.drop (i*e))) c1 k1 (by rw[hvl]; omega)
   have hc2s:c2.size=cur.size:=by
    have:=congrArg List.length k4
    simp only[Array.length_toList,List.length_append,List.length_take,List.length_drop] at this
    omega
   refine⟨_,rfl,⟨?_,.inr ⟨b,c,c2,rfl,Nat.zero_le _,k3,hroom,hmax,by rw[hc2s,hsz],?_⟩⟩,⟨?_,?_,?_,?_,?_⟩,.inl rfl⟩
   ·simp only[List.length_append,List.length_take,List.length_drop]; omega
   ·rw[hn1]
    exact x13 cur.toList c1.toList c2.toList ht hvl (by omega) (by simp; omega) k2 k4
   ·rw[t0c,t0c]; rfl
   ·rw[v0j,v0j]; rfl
   ·rw[w0k,w0k]; rfl
   ·rw[v0i,v0i]; exact Nat.le_refl _
   ·intro k hk hkb
    rw[v00 _ _ _ _ _ (fun h=>hkb (by rw[h])),v00 _ _ _ _ _ (fun h=>hkb (by rw[h]))]
    rfl
  ·obtain⟨i9,z,hi9,hz9,hs9,hb9,hzc⟩:=L.i9
   refine (q1i L z i9 hi9 hz9 hs9 hb9 hzc b n c i vb vc us vs w hlt hnc (by omega) hn hul hvl hcs hvs h1 h1v).mono fun ex w' h=>?_
   obtain⟨rfl,rfl⟩:=h
   obtain⟨G,hG⟩: ∃G,G=grownCap w (n+1) c (ρ.t 9):=⟨_,rfl⟩
   have hGn:n+1≤G:=by rw[hG]; exact grownCap_ge w _ _ _
   have hG63:G≤maxLen:=by rw[hG]; exact grownCap_le_maxLen w (n+1) c (ρ.t 9) (by unfold maxLen; omega)
   rw[← hG]
   have hdl:(us.drop (i*e)).length=n*e - i*e:=by rw[List.length_drop,hul]
   obtain⟨ROW,hROW⟩: ∃ROW:Array Value,ROW=(us.take (i*e)).toArray ++ Builtin.zeroCells z.cells (n+1 - i) ++ Builtin.zeroCells z.cells (G - (n+1)):=⟨_,rfl⟩
   rw[← hROW]
   have e1:(n+1 - i)*e=n*e+e - i*e:=by rw[Nat.sub_mul,hn1]
   have e2:(G - (n+1))*e=G*e - (n*e+e):=by rw[Nat.sub_mul,hn1]
   have e3:n*e+e≤G*e:=by rw[← hn1]; exact Nat.mul_le_mul_right e hGn
   have hRs:ROW.size=G*e:=by
    rw[hROW]
    simp only[Builtin.zeroCells,hzc,Array.size_append,Array.size_map,Array.size_range,List.size_toArray,List.length_take]
    omega
   have hRt:ROW.toList.take (i*e)=us.take (i*e):=by
    rw[hROW]
    simp only[Array.toList_append]
    rw[List.append_assoc,List.take_append_of_le_length (by simp; omega)]
    rw[List.take_take,Nat.min_self]
   have hR:(w.alloc (.cells ROW (ρ.t 9))).drew.heap[w.heap.size]?=some (.cells ROW (ρ.t 9) (0,0)):=by show (w.heap.push _)[w.heap.size]?=_; simp
   obtain⟨c1,k1,k2⟩:=w0z vs (i*e) _ ROW hR (by rw[hvl]; omega)
   have hc1s:c1.size=ROW.size:=by
    have:=congrArg List.length k2
    simp only[Array.length_toList,List.length_append,List.length_take,List.length_drop] at this
    omega
   obtain⟨c2,k3,k4⟩:=w0z (us.drop (i*e)) (i*e+e) (((w.alloc (.cells ROW (ρ.t 9))).drew.setCells w.heap.size (i*e) vs).drew) c1 k1 (by rw[hdl]; omega)
   have hc2s:c2.size=ROW.size:=by
    have:=congrArg List.length k4
    simp only[Array.length_toList,List.length_append,List.length_take,List.length_drop] at this
    omega
   refine⟨_,rfl,⟨?_,.inr ⟨w.heap.size,G,c2,rfl,Nat.zero_le _,k3,hGn,hG63,by rw[hc2s,hRs],?_⟩⟩,⟨?_,?_,?_,?_,?_⟩,.inr rfl⟩
   ·simp only[List.length_append,List.length_take,List.length_drop]; omega
   ·have a1:c1.toList.take (i*e+e)=us.take (i*e) ++ vs:=by
     rw[k2,hRt,List.take_append_of_le_length (by simp; omega),List.take_of_length_le (by simp; omega)]
    rw[k4,a1,hn1,List.take_append_of_le_length (by simp; omega),List.take_of_length_le (by simp; omega)]
   ·rw[t0c]; show ((w.alloc _).drew.setCells _ _ _).os=_; rw[t0c]; rfl
   ·rw[v0j]; show ((w.alloc _).drew.setCells _ _ _).tape=_; rw[v0j]; rfl
   ·rw[w0k]; show ((w.alloc _).drew.setCells _ _ _).output=_; rw[w0k]; rfl
   ·rw[v0i]; show _≤((w.alloc _).drew.setCells _ _ _).heap.size; rw[v0i]; show _≤(w.heap.push _).size; simp
   ·intro k hk hkb
    rw[v00 _ _ _ _ _ (by omega)]
    show ((w.alloc _).drew.setCells _ _ _).heap[k]?=_
    rw[v00 _ _ _ _ _ (by omega)]
    simp only[World.alloc,World.drew]
    rw[Array.getElem?_push_lt hk]
    simp[hk]
end Go.AmL
namespace Go.Am
open Go.Proofs Go.AmL
variable {P:Program} {ρ:Shelf.Ren} {w:World} {N:Nat→Prop} {lc:Loc}
theorem p0y {e:Nat}: ∀{xs ys:List (List C)} {vs:List Value} {F:Fp},z09 w N e (xs ++ ys) vs F→
 ∃F1 F2,F=add F1 F2∧z09 w N e xs (vs.take (xs.length*e)) F1∧z09 w N e ys (vs.drop (xs.length*e)) F2
 | [],ys,vs,F,h=>⟨fz,F,by rw[v0c],by simp[z09],by simpa using h⟩
 | r :: xs,ys,vs,F,h=>by
   simp only[List.cons_append,z09] at h
   obtain⟨v1,v2,F1,F2,rfl,hl,rfl,h1,h2⟩:=h
   obtain⟨A,B,rfl,k1,k2⟩:=p0y h2
   have hv1:v1.length=e:=by rw[y01 h1,hl]
   have e1:(r :: xs).length*e=v1.length+xs.length*e:=by rw[List.length_cons,Nat.succ_mul,hv1,Nat.add_comm]
   refine⟨add F1 A,B,by rw[add_assoc],?_,?_⟩
   ·rw[e1,List.take_length_add_append]
    simp only[z09]
    exact⟨v1,_,F1,A,rfl,hl,rfl,h1,k1⟩
   ·rw[e1,List.drop_length_add_append]
    exact k2
theorem l02 {el e:Nat} {xs:List (List C)} {v:Value} {G1:Fp} (hr1:repC w N (.ar true el e xs) v G1) :
 ∃us G1' ob,((ob=none∧xs.length=0∧us=[]∧∃a,v = .slice a 0 0)∨(ob=v.ownBlock∧w.ownsRow 0 el e v xs.length us))∧z09 w N e xs us G1'∧(∀b,G1' b≤G1 b)∧(∀b,ob=some b→G1 b=1+G1' b):=by
 rcases t0o hr1 with⟨rfl,a,hv⟩ | ⟨b,cap,cur,F',_,hv,hb,hl,hc,hs',hr,rfl⟩
 ·exact⟨[],fz,none,.inl ⟨rfl,rfl,rfl,a,hv⟩,by simp[z09],fun _=>by simp[fz],fun _ h=>by cases h⟩
 ·refine⟨_,F',some b,.inr ⟨by rw[hv]; rfl,?_⟩,hr,fun x=>by simp only[add]; omega,fun b' hb'=>?_⟩
  ·rw[hv]
   exact⟨w0g hr,.inr ⟨b,cap,cur,rfl,Nat.zero_le _,hb,hl,hc,hs',rfl⟩⟩
  ·injection hb' with hb'
   subst hb'
   simp[add,Am.one]
theorem q0l {f:Nat} {el e:Nat} {rs:List (List C)} {ob:Option Nat} {gs:List Value} {w:World} {N:Nat→Prop} {lc:Loc} {F Fa Fo Gr:Fp} {vals:List Value}
 (hB:Base w N F) (hle: ∀b,Fa b+Fo b≤F b) (hGb: ∀b,ob=some b→Fa b≥1+Gr b) (hGle: ∀b,Gr b≤Fa b)
 (hrows:z09 w N e rs vals Gr)
 (hc:Calls P f gs.toArray w fun ex w'=>∃v',ex = .returned v'∧w'.ownsRow 0 el e v' rs.length vals∧w.grownBy w' ob∧(v'.ownBlock=ob∨∃g,v'.ownBlock=some g∧w.heap.size≤g)) :
 Calls P f gs.toArray w fun ex w'=>∃(g:Value) (r:A) (H':List (Nat×Obj)) (N':Nat→Prop) (lc':Loc) (F' Fr' Fo':Fp),ex = .returned g∧(H'=[]∧r = .one (.ar true el e rs))∧Base w' N' F'∧repA w' N' lc' r g Fr'∧y03 w' N' lc' H' Fo'∧
  (∀b,Fr' b+Fo' b≤F' b)∧r.ref (fun _ _=>true)=false∧Fr w F N lc w' F' N' lc':=by
 refine hc.mono fun ex w' ⟨v',hex,hown',hgrow,hblk⟩=>?_
 have hF1: ∀b,F b≤1:=hB.one
 have zb: ∀b,ob=some b→Gr b=0∧F b=1:=fun b hb=>by
  have h1:=hGb b hb; have h2:=hle b; have h3:=hF1 b; omega
 have keepH: ∀b,1≤Gr b∨N b→w'.heap[b]?=w.heap[b]?:=by
  intro b hb
  have hlt:b<w.heap.size:=hb.elim (fun h=>hB.lt b (by have:=hGle b; have:=hle b; omega)) fun h=>(hB.nb b h).2
  refine hgrow.block b hlt fun he=>?_
  have h1:=zb b he.symm
  rcases hb with hb | hb
  ·omega
  ·have:=(hB.nb b hb).1; omega
 have hrows':=x0a (w':=w') (N':=N) e rs vals Gr keepH (fun _ h=>h) hrows
 rcases hown'.2 with⟨rfl,hn0⟩ | ⟨g,cap,cur,rfl,_,hg,hncap,hmax,hsz,htake⟩
 ·have hx:rs=[]:=List.eq_nil_of_length_eq_zero hn0
  subst hx
  exact⟨_,_,[],N,lc,F,fz,fz,hex,⟨rfl,rfl⟩,⟨hF1,fun b hb=>Nat.lt_of_lt_of_le (hB.lt b hb) hgrow.size,fun b hb=>⟨(hB.nb b hb).1,Nat.lt_of_lt_of_le (hB.nb b hb).2 hgrow.size⟩⟩,
   by simp[repA,repT,repC],by simp[y03],fun b=>by simp[fz],rfl,⟨hgrow.os,hgrow.tape,hgrow.output,hgrow.size,fun b hb h0=>hgrow.block b hb (fun he=>by have:=(zb b he.symm).2; omega),fun _ h=> .inl h,fun _ h=>h,fun _ h=> .inl h,fun _ _=>rfl⟩⟩
 ·have hv:repA w' N lc (.one (.ar true el e rs)) (.slice (some ⟨g,0,none⟩) rs.length cap) (add (Am.one g) Gr):=by
   simp only[repA,repT,repC]
   exact .inr ⟨g,cap,cur,Gr,rfl,hg,hncap,hmax,hsz,by rw[htake]; exact hrows',rfl⟩
  have hglt:g<w'.heap.size:=(Array.getElem?_eq_some_iff.1 hg).1
  rcases hblk with hbk | hbk
  ·have hbk':ob=some g:=by rw[← hbk]; rfl
   have hz:=zb g hbk'
   refine⟨_,_,[],N,lc,F,_,fz,hex,⟨rfl,rfl⟩,⟨hF1,fun b hb=>Nat.lt_of_lt_of_le (hB.lt b hb) hgrow.size,fun b hb=>⟨(hB.nb b hb).1,Nat.lt_of_lt_of_le (hB.nb b hb).2 hgrow.size⟩⟩,
    hv,by simp[y03],fun b=>?_,rfl,⟨hgrow.os,hgrow.tape,hgrow.output,hgrow.size,fun b hb h0=>hgrow.block b hb (fun he=>by have:=(zb b he.symm).2; omega),fun _ h=> .inl h,fun _ h=>h,fun _ h=> .inl h,fun _ _=>rfl⟩⟩
   have h1:=hle b; have h3:=hGle b
   by_cases hbg:b=g
   ·subst hbg
    simp only[add,fz,Am.one,if_true] at *
    omega
   ·simp only[add,fz,Am.one,if_neg hbg] at *
    omega
  ·obtain⟨g0,hbk,hge⟩:=hbk
   have hgn:g=g0:=by simpa [Value.ownBlock] using hbk
   subst hgn
   refine⟨_,_,[],N,lc,own F g,_,fz,hex,⟨rfl,rfl⟩,⟨fun b=>?_,fun b hb=>?_,fun b hb=>?_⟩,
    hv,by simp[y03],fun b=>?_,rfl,⟨hgrow.os,hgrow.tape,hgrow.output,hgrow.size,fun b hb h0=>hgrow.block b hb (fun he=>by have:=(zb b he.symm).2; omega),fun b hb=>?_,fun _ h=>h,fun _ h=> .inl h,fun _ _=>rfl⟩⟩
   ·unfold own; split
    ·exact Nat.le_refl _
    ·exact hF1 b
   ·unfold own at hb
    split at hb
    ·rename_i hb'; rw[hb']; exact hglt
    ·exact Nat.lt_of_lt_of_le (hB.lt b hb) hgrow.size
   ·have:=hB.nb b hb
    unfold own
    rw[if_neg (by omega)]
    exact⟨this.1,Nat.lt_of_lt_of_le this.2 hgrow.size⟩
   ·have h1:=hle b; have h3:=hGle b; have h4:F g=0:=by
     rcases Nat.eq_zero_or_pos (F g) with h | h
     ·exact h
     ·have:=hB.lt g h; omega
    by_cases hbg:b=g
    ·subst hbg
     simp only[add,fz,Am.one,own,if_true] at *
     omega
    ·simp only[add,fz,Am.one,own,if_neg hbg] at *
     omega
   ·unfold own at hb
    split at hb
    ·right; omega
    ·exact .inl hb
theorem y1e {e:Nat} (L:LIns P ρ e) (xs:List (List C)) (row:List C) (i:Nat) (hi:i≤xs.length) (hn:xs.length+1≤4294967296) :
 z06 P (ρ.f 22) [.one (.ar true (ρ.t 9) e xs),.one (.int .i64 i),.one (.ar true (ρ.t 9) e [row])] (.one (.ar true (ρ.t 9) e (xs.take i ++ [row] ++ xs.drop i))):=by
 intro w N lc gs F Fa Fo hB hle hrf hgs hob
 simp only[x07,repA,repT] at hgs
 obtain⟨s,gs1,Fs,F1,rfl,rfl,hs,iv,gs2,Fi,F2,rfl,rfl,hiv,v,gs3,Fv,F3,rfl,rfl,hv,rfl,rfl⟩:=hgs
 simp only[repC] at hiv
 obtain⟨rfl,rfl⟩:=hiv
 obtain⟨us,Gs,os,hown,hrs,hsle,hsb⟩:=l02 hs
 obtain⟨vs,Gv,ov,hownv,hrv,hvle,hvb⟩:=l02 hv
 obtain⟨hov,hownv⟩:ov=v.ownBlock∧w.ownsRow 0 (ρ.t 9) e v 1 vs:=by
  rcases hownv with⟨_,h,_⟩ | h
  ·simp at h
  ·exact h
 have hd: ∀b,os=some b→v.ownBlock≠some b:=by
  intro b hq he
  have h1:=hsb b hq; have h2:=hvb b (hov.trans he); have h3:=hle b; have h4:=hB.one b
  simp only[add,fz] at h3
  omega
 have hsp:=p0y (xs:=xs.take i) (ys:=xs.drop i) (by rw[List.take_append_drop]; exact hrs)
 obtain⟨Ga,Gb,rfl,ha,hb⟩:=hsp
 have htl:(xs.take i).length=i:=by rw[List.length_take]; omega
 rw[htl] at ha hb
 have hrow:z09 w N e (xs.take i ++ [row] ++ xs.drop i) (us.take (i*e) ++ vs ++ us.drop (i*e)) (add (add Ga Gv) Gb):=w08 (w08 ha hrv) hb
 have hlen:(xs.take i ++ [row] ++ xs.drop i).length=xs.length+1:=by simp; omega
 refine q0l (Fo:=Fo) (ob:=os) (rs:=xs.take i ++ [row] ++ xs.drop i) hB hle (fun b hq=>?_) (fun b=>?_) hrow ?_
 ·have h1:=hsb b hq; have h2:=hvle b; simp only[add,fz] at *; omega
 ·have h1:=hsle b; have h2:=hvle b; simp only[add,fz] at *; omega
 ·rw[hlen]
  refine (n1x L s v xs.length i us vs w os hown hownv hd hi hn (w0h hrs) (w0h hrv)).mono fun ex w' ⟨v',h1,h2,h3,h4⟩=>⟨v',h1,h2,h3,?_⟩
  exact h4.imp_right fun h=>⟨_,h,Nat.le_refl _⟩
end Go.Am
namespace Go.AmL
open Go.Proofs Go.Shelf Go.RowKit Go.Lib Go.Am
variable {P:Program} {ρ:Shelf.Ren}
structure LCl (P:Program) (ρ:Shelf.Ren) (e:Nat):Prop where
 mixed:P.follows .mixedOrders=true
 f16:Bears P (ρ.f 16) (Body2.n16 ρ)
 t4:P.underlying (ρ.t 4)=some (TypeDesc.bool)
 a4: ∀w,(isAgg (ρ.t 4)).run P w = .ok false w
 z4: ∀w,(Go.sizeOf (ρ.t 4)).run P w = .ok 1 w
 z9: ∀w,(Go.sizeOf (ρ.t 9)).run P w = .ok e w
 t24:P.underlying (ρ.t 24)=some (TypeDesc.slice (ρ.t 9))
 a24: ∀w,(isAgg (ρ.t 24)).run P w = .ok false w
 z24: ∀w,(Go.sizeOf (ρ.t 24)).run P w = .ok 1 w
 i9: ∃i z,P.info? (ρ.t 9)=some i∧i.zero=some z∧i.size=e∧i.bytes≤16384∧z.cells.size=e
 he:0<e
set_option maxHeartbeats 4000000 in
theorem w1a {e:Nat} (L:LCl P ρ e) (c:Nat) (w:World) :
 Calls P (ρ.f 16) #[.slice none 0 c] w fun ex w1=>ex = .returned (.slice none 0 0)∧w1=w:=by
 have t4:=L.t4; have a4:=L.a4; have z4:=L.z4; have u4:=run_underlying L.t4
 have z9:=L.z9; have t24:=L.t24; have a24:=L.a24; have z24:=L.z24
 have u24:=run_underlying L.t24
 have mixed:=L.mixed
 have q24: ∀(w:World) (a:Option Addr) (n c n' c':Nat),(binOp .eql (ρ.t 24) (.slice a n c) (.slice none n' c')).run P w = .ok (.bool a.isNone) w:=fun w a n c n' c'=>Lib.run_eql_slice_nil w _ _ a n c n' c' L.t24
 obtain⟨nm,_,F16⟩:=L.f16
 go_enter F16,Body2.n16_ntmps ρ
 go_wp2
 go_ret
 exact⟨rfl,rfl⟩
set_option maxHeartbeats 4000000 in
theorem z1q {e:Nat} (L:LCl P ρ e) (a:Addr) (n c:Nat) (w:World) (hnc:n≤c) (hmax:c≤9223372036854775807) {v':Value} {w':World}
 (hrun:(Builtin.append_ #[ρ.t 24,ρ.t 24] (ρ.t 24) #[.slice (some ⟨w.heap.size,0,none⟩) 0 0,.slice (some a) n c]).run P (w.alloc (.cells #[] (ρ.t 9))) = .ok v' w') :
 Calls P (ρ.f 16) #[.slice (some a) n c] w fun ex w1=>ex = .returned v'∧w1=w':=by
 have t4:=L.t4; have a4:=L.a4; have z4:=L.z4; have u4:=run_underlying L.t4
 have z9:=L.z9; have t24:=L.t24; have a24:=L.a24; have z24:=L.z24
 have u24:=run_underlying L.t24
 have mixed:=L.mixed
 have q24: ∀(w:World) (a:Option Addr) (n c n' c':Nat),(binOp .eql (ρ.t 24) (.slice a n c) (.slice none n' c')).run P w = .ok (.bool a.isNone) w:=fun w a n c n' c'=>Lib.run_eql_slice_nil w _ _ a n c n' c' L.t24
 obtain⟨nm,_,F16⟩:=L.f16
 go_enter F16,Body2.n16_ntmps ρ
 go_wp2_with (at_builtin; refine Lib.wpList_append_run _ rfl _ _ _ _ rfl _ _ rfl rfl _ _ hrun ?_)
 go_ret
 exact⟨rfl,rfl⟩
end Go.AmL
namespace Go.Am
open Go.Proofs Go.AmL
variable {P:Program} {ρ:Shelf.Ren}
theorem r03 {e:Nat} (L:LCl P ρ e) (xs:List (List C)) (hn:xs.length≤4294967296):z06 P (ρ.f 16) [.one (.ar false 0 e xs)] (.one (.ar true (ρ.t 9) e xs)):=by
 intro w N lc gs F Fa Fo hB hle hrf hgs hob
 simp only[x07,repA,repT] at hgs
 obtain⟨g,gs1,F1,F2,rfl,rfl,hg,rfl,rfl⟩:=hgs
 simp only[repC] at hg
 obtain⟨rfl,a,cap,rfl,hnc,hmax,hne⟩:=hg
 cases a with
 | none=>
   have hx:xs=[]:=by
    by_cases h:xs=[]
    ·exact h
    ·obtain⟨_,_,_,_,_,h,_⟩:=hne h
     cases h
   subst hx
   refine (w1a L cap w).mono fun ex w' h=>?_
   obtain⟨rfl,rfl⟩:=h
   exact⟨_,_,[],N,lc,F,fz,fz,rfl,⟨rfl,rfl⟩,hB,by simp[repA,repT,repC],by simp[y03],fun b=>by simp[fz],rfl,Fr.refl _ _ _ _⟩
 | some a=>
   have hcl: ∃vals,z09 w N e xs vals fz∧∀j u,vals[j]?=some u→w.cell? (a.add j)=some u:=by
    by_cases h:xs=[]
    ·subst h
     exact⟨[],by simp[z09],fun j u hj=>by simp at hj⟩
    ·obtain⟨b,off,cur,ty,fr,ha,hN,hb,hsz,hr⟩:=hne h
     injection ha with ha
     subst ha
     refine⟨_,hr,fun j u hj=>?_⟩
     rw[x0i,y07 hb]
     rw[List.getElem?_take] at hj
     split at hj
     ·rw[List.getElem?_drop] at hj; simpa using hj
     ·cases hj
   obtain⟨vals,hrv,hcells⟩:=hcl
   obtain⟨i9,zv,hi9,hz9,hs9,hb9,hzc⟩:=L.i9
   have hbytes:(0+xs.length)*i9.bytes≤140737488355328:=by
    have h1:(0+xs.length)*i9.bytes≤4294967296*16384:=Nat.mul_le_mul (by omega) hb9
    omega
   have hsz:(w.alloc (.cells #[] (ρ.t 9))).heap.size=w.heap.size+1:=by show (w.heap.push _).size=_; simp
   have hat:(w.alloc (.cells #[] (ρ.t 9))).heap[w.heap.size]?=some (.cells #[] (ρ.t 9) (0,0)):=by show (w.heap.push _)[w.heap.size]?=_; simp
   obtain⟨v',w',hrun,h2,h3,_,h5⟩:=run_append_own_at (P:=P) (w.alloc (.cells #[] (ρ.t 9))) 0 (ρ.t 24) (ρ.t 24) (ρ.t 9) i9 zv e i9.bytes L.t24 hi9 hz9 hs9 rfl hzc L.he (.slice (some ⟨w.heap.size,0,none⟩) 0 0) 0 []
    ⟨by simp,.inr ⟨w.heap.size,0,#[],rfl,Nat.zero_le _,hat,Nat.le_refl _,by simp[maxLen],by simp,by simp⟩⟩ a xs.length cap vals (w0g hrv)
    (fun j u hj=>by
      have:=hcells j u hj
      simp only[World.cell?] at this ⊢
      have hlt:(a.add j).block<w.heap.size:=by
       rcases Nat.lt_or_ge (a.add j).block w.heap.size with h | h
       ·exact h
       ·rw[Array.getElem?_eq_none h] at this; cases this
      rw[show (w.alloc (.cells #[] (ρ.t 9))).heap[(a.add j).block]?=w.heap[(a.add j).block]? from Array.getElem?_push_lt hlt |>.trans (by simp[hlt])]
      exact this)
    (w0h hrv) (by simp only[maxLen]; omega) hbytes (Nat.zero_le _)
   refine q0l (Fo:=Fo) (ob:=none) (Gr:=fz) (rs:=xs) hB hle (fun b hq=>by cases hq) (fun b=>by simp[fz]) hrv ?_
   simp only[maxLen] at hmax
   refine (z1q L a xs.length cap w hnc (by omega) hrun).mono fun ex w1 h=>?_
   obtain⟨rfl,rfl⟩:=h
   refine⟨v',rfl,by simpa using h2,⟨h3.os,h3.tape,h3.output,?_,fun k hk _=>?_⟩,?_⟩
   ·have:=h3.size
    rw[hsz] at this
    omega
   ·rw[h3.block k (by rw[hsz]; omega) (by simp[Value.ownBlock]; omega)]
    exact Array.getElem?_push_lt hk |>.trans (by simp[hk])
   ·right
    rcases h5 with h5 | h5
    ·exact⟨_,h5,Nat.le_refl _⟩
    ·exact⟨_,h5,by rw[hsz]; omega⟩
end Go.Am
namespace Go.AmL
open Go.Proofs Go.Shelf Go.RowKit Go.Lib Go.Am
variable {P:Program} {ρ:Shelf.Ren}
end Go.AmL
namespace Go.Am
open Go.Proofs Go.AmL
variable {P:Program} {ρ:Shelf.Ren}
end Go.Am
namespace Go.Am
open Go.Proofs Go.AmL
variable {P:Program} {ρ:Shelf.Ren}
theorem d0s (L:Lays8.n4 P ρ) (i0:TypeInfo) (z:Value) (hi0:P.info? (ρ.t 25)=some i0) (hz0:i0.zero=some z) (hs0:i0.size=1) (hzs:z.cells.size=1) (hby:i0.bytes≤16384) (n:Nat) (hn:n≤4294967296) :
 z06 P (ρ.f 4) [.one (.ar true (ρ.t 25) 1 []),.one (.int .i64 n)] (.one (.ar true (ρ.t 25) 1 [])):=by
 intro w N lc gs F Fa Fo hB hle hrf hgs hob
 simp only[x07,repA,repT] at hgs
 obtain⟨s,gs1,Fs,F1,rfl,rfl,hs,iv,gs2,Fi,F2,rfl,rfl,hiv,rfl,rfl⟩:=hgs
 simp only[repC] at hiv
 obtain⟨rfl,rfl⟩:=hiv
 have key: ∃base c,s = .slice base 0 c∧c≤maxLen∧(base=none→c=0)∧∃cs:List Value,cs.length=c∧∀a,base=some a→∀j v,cs[j]?=some v→w.cell? (a.add j)=some v:=by
  rcases t0o hs with⟨_,a,hv⟩ | ⟨b,cap,cur,F',hcp,hv,hb,hl,hc,hsz,hr,_⟩
  ·exact⟨a,0,hv,by simp[maxLen],fun _=>rfl,[],rfl,fun _ _ j v h=>by simp at h⟩
  ·refine⟨some ⟨b,0,none⟩,cap,hv,hc,(fun h=>by cases h),cur.toList,by simp[hsz],fun a ha j v h=>?_⟩
   injection ha with ha
   subst ha
   rw[x0i,Nat.zero_add,y07 hb]
   simpa using h
 obtain⟨base,c,rfl,hcm,hnil,cs,hcl,hcs⟩:=key
 by_cases hroom:n≤c
 ·refine (Any8.slices_Grow_room L base 0 c n w (Nat.zero_le _) (by simp only[maxLen] at hcm; omega) (by omega) (by omega)).mono ?_
  rintro ex w' ⟨rfl,rfl⟩
  refine⟨_,_,[],N,lc,F,_,fz,rfl,⟨rfl,rfl⟩,hB,hs,by simp[y03],fun b=>?_,rfl,Fr.refl ..⟩
  have:=hle b; simp only[add,fz] at *; omega
 ·have hcge:c<0+n:=by omega
  refine q0l (Gr:=fz) (vals:=[]) (rs:=[]) (ob:=none) hB hle (fun b h=>by cases h) (fun b=>by simp[fz]) (by simp[z09]) ?_
  refine (Any8.slices_Grow_grow L i0 z hi0 hz0 (by omega) base 0 c n cs w (Nat.zero_le _) hcge ?_ (by omega) (by rw[hs0,hcl]; omega) hnil hcs).mono ?_
  ·have:(0+n)*i0.bytes≤4294967296*16384:=Nat.mul_le_mul (by omega) hby
   omega
  ·rintro ex w' ⟨rfl,rfl⟩
   have hge:=grownCap_ge w (0+n) c (ρ.t 25)
   have hmx:=grownCap_le_maxLen w (0+n) c (ρ.t 25) (by simp only[maxLen]; omega)
   have hnew:=s0y w.drew (.cells (cs.toArray ++ Builtin.zeroCells z.cells (0+n - c) ++ Builtin.zeroCells z.cells (grownCap w (0+n) c (ρ.t 25) - (0+n))) (ρ.t 25))
   refine⟨_,rfl,⟨by simp,.inr ⟨w.heap.size,_,_,rfl,Nat.zero_le _,hnew,Nat.zero_le _,hmx,?_,by simp⟩⟩,?_,.inr ⟨w.heap.size,rfl,Nat.le_refl _⟩⟩
   ·simp only[Array.size_append,size_zeroCells,List.size_toArray,hcl,hzs]
    omega
   ·exact⟨rfl,rfl,rfl,by simp,fun k hk _=>s01 w.drew _ k hk⟩
end Go.Am
