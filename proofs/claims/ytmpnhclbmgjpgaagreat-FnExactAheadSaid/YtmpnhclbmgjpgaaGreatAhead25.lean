/- Text 25 for FnExactAhead. -/
import Derived.Test.YtmpnhclbmgjpgaaGreatAhead24
set_option linter.unusedVariables false
set_option linter.unusedSimpArgs false
namespace Go.Am
open Go.Proofs
set_option maxHeartbeats 4000000
set_option maxRecDepth 100000
attribute [-simp] BitVec.toNat_or BitVec.toNat_and BitVec.toNat_ofInt
section
attribute [-simp] z03 z05 z02
def RowJ (g:TGram) (w:List Int) (t:Nat) (row:List Int) (a:Nat) (n:Nat) (σ:St):Prop:=∃(s E f:Nat) (T:List (Nat×Nat×Bool)),s≤row.length∧n=row.length - s∧Spr g.parts w (row.take s) a E f∧TabOk g w T∧
 σ=⟨[(0,.one (.pt 662 1000 [] 0 0)),(2,aI a),(6,.one (.pt 3 6 [] 0 0)),(7,.one (.pt 3 7 [] 0 0)),(18,.one (.ar false 0 1 (row.map rI))),(19,aI row.length),(20,aI s)],[(6,⟨237,3,[[.int .u32 0,.int .i64 0,.bool false]]⟩),(7,⟨237,3,[[.int .u32 E,.int .i64 f,.bool false]]⟩),(1000,⟨t,662,[.ar false 0 1 (g.parts.map sISS) :: .ar false 0 1 (w.map rI) :: tabC T]⟩)]⟩
def InnJ (g:TGram) (w:List Int) (t:Nat) (row pre:List Int) (x:Int) (a s E:Nat) (n:Nat) (σ:St):Prop:=∃(i E' f:Nat) (T:List (Nat×Nat×Bool)),a≤i∧i≤w.length+1∧n=w.length+1 - i∧Inn g.parts w pre x a i E' f∧TabOk g w T∧
 σ=⟨[(0,.one (.pt 662 1000 [] 0 0)),(2,aI a),(6,.one (.pt 3 6 [] 0 0)),(7,.one (.pt 3 7 [] 0 0)),(9,aI x),(10,.one (.int .u32 E')),(11,aI i),(18,.one (.ar false 0 1 (row.map rI))),(19,aI row.length),(20,aI s)],[(6,⟨237,3,[[.int .u32 0,.int .i64 0,.bool false]]⟩),(7,⟨237,3,[[.int .u32 E,.int .i64 f,.bool false]]⟩),(1000,⟨t,662,[.ar false 0 1 (g.parts.map sISS) :: .ar false 0 1 (w.map rI) :: tabC T]⟩)]⟩
def d1r:K:=dc 0x102e060032fc4a81c10c2081014078011a02e540040810c0180e0242800203cdcb10fa0a002040d760012fc3a81c018da0a0030402e10610b98001202c00c1cf40012fc3281c118ba32c017caa31001089a0c046228bc00421e81c118704ab811a8b6b184168b00042128300183a0a005040a8c0032fc3000400000020030c5ad20a8a689c39fea900682c00282409c00060400c31a60a69499648c29291642c08e20010a21c01850400031400860df09f79938479d0dd70004271b0466da35a00064b007040000dcb2891c608100951348b2891c60802870852d8058080081000280080f010410095c15d60010965120470c10011400060d508055350d1010400371c60810065134871820071c01540390134834810030400111c00cbf070010000000800c316b49140104f04008004000000200301440200f382080f0810e34344d0801c10060010000000800c316b481040
def k1f:Nat×List RV:=(59,[.c 6 3 true])
theorem c_194:z01 PA 194 k1f d1r:=by unfold z01; kernel_rfl
theorem v1e (g:TGram) (w:List Int) (t:Nat) (row:List Int) (a:Nat) (T:List (Nat×Nat×Bool)) (hT:TabOk g w T) (hg:y02 g=true) (hwl:w.length≤10) (ha:a≤w.length) (hrl:row.length<2 ^ 31) (hok:row.all (y0o g.parts.length)=true)
 (hp: ∀(pre:List Int) (x:Int) (post:List Int) (j:Nat) (T:List (Nat×Nat×Bool)),row=pre ++ x :: post→100≤x→Drv g.parts w pre a j→TabOk g w T→CallsA Tryz.prog 267 [.one (.pt 662 1000 [] 0 0),aI (x - 100),aI j] [(1000,⟨t,662,[lkR g w T]⟩)] (t0g g w t [x] j)) :
 CallsA Tryz.prog 194 [.one (.pt 662 1000 [] 0 0),.one (.ar false 0 1 (row.map rI)),aI a] [(1000,⟨t,662,[lkR g w T]⟩)] (t0g g w t row a):=by
 have hsy:=fun x i T hT hi hx hx2 hp=>y15 g w t x i T hT hwl hi hx hx2 hp
 have hfin: ∀E f T,Spr g.parts w row a E f→TabOk g w T→t0g g w t row a (.agg (entC (E,f,false))) [(1000,⟨t,662,[lkR g w T]⟩)]:=fun E f T h hT=>⟨E,f,false,T,h,hT,rfl,rfl⟩
 have hgl:=x0k hg
 have hRe: ∀x i r H,t0g g w t [x] i r H→∃(E f:Nat) (d:Bool) (T':List (Nat×Nat×Bool)),Spr g.parts w [x] i E f∧TabOk g w T'∧H=[(1000,⟨t,662,[lkR g w T']⟩)]∧r = .agg (entC (E,f,d)):=fun x i r H h=>h
 generalize hR:t0g g w t row a=R at hfin ⊢
 clear hR
 refine q03 c_194 (by simp[k1f]) (by simp) ?_
 (conv in d1r=>reduce); unfold k1f
 obtain⟨ps⟩:=g
 simp only[lkR,entC] at hsy hfin hRe hp ⊢
 have w3:IntKind.u64.wrap (a:Int)=a:=v0z (by omega) (by omega)
 have w4:=shlU (x:=(a:Int)) (by omega) (by omega)
 rw[Int.toNat_natCast,Int.one_mul] at w4
 simp[x0r,w3]
 refine z04 (RowJ ⟨ps⟩ w t row a) row.length ⟨0,2 ^ a,a,T,by omega,by simp,by simpa using h1n ha hwl,hT,by simp[w4]⟩ ?_
 rintro n σ ⟨s,E,f,T,hs,rfl,hsp,hT,rfl⟩
 by_cases c1:s<row.length
 case neg=>
  have e:s=row.length:=by omega
  subst e
  rw[List.take_length] at hsp
  simp
  exact hfin E f T hsp hT
 have c1':(s:Int)<row.length:=by omega
 obtain⟨x,hx⟩: ∃x,row[s]=x:=⟨_,rfl⟩
 have hxm:y0o ps.length x=true:=by
  rw[← hx]
  exact List.all_eq_true.1 hok _ (List.getElem_mem c1)
 have hxl:0≤x∧x<120:=by
  simp only[y0o,Bool.or_eq_true,z0l] at hxm
  simp only at hgl
  omega
 have hrow:row=row.take s ++ x :: row.drop (s+1):=by
  rw[← hx,← List.drop_eq_getElem_cons c1,List.take_append_drop]
 have ws:IntKind.i64.wrap ((s:Int)+1)=s+1:=z08 (by omega) (by omega)
 simp[c1,c1',hx]
 refine z04 (InnJ ⟨ps⟩ w t row (row.take s) x a s E) (w.length+1 - a) ⟨a,0,f,T,by omega,by omega,rfl,inn_0 hsp,hT,by simp⟩ ?_
 rintro n σ ⟨i,E',f,T,hai,hiw,rfl,hin,hT,rfl⟩
 by_cases c2:i≤w.length
 case neg=>
  have e:i=w.length+1:=by omega
  subst e
  have hsp2:Spr ps w (row.take (s+1)) a E' f:=by
   rw[List.take_succ_eq_append_getElem c1,hx]
   exact n1u (by omega) hin
  have nw: ¬(w.length:Int)+1≤w.length:=by omega
  simp[nw]
  by_cases c3:E'=0
  ·simp[c3]
   subst c3
   have:=p1h (row.drop (s+1)) hsp2
   rw[List.take_append_drop] at this
   exact hfin 0 f T this hT
  ·simp[c3,ws]
   exact⟨row.length - (s+1),by omega,s+1,E',f,T,by omega,rfl,hsp2,hT,by simp⟩
 have c2':(i:Int)≤w.length:=by omega
 have wi:IntKind.i64.wrap ((i:Int)+1)=i+1:=z08 (by omega) (by omega)
 have hE:=hsp.1
 have hh:=g0x E (i:Int) (by omega) (by omega) (by omega)
 rw[Int.toNat_natCast] at hh
 have hE':=hin.1
 by_cases c3:E.testBit i=true
 ·have hd:Drv ps w (row.take s) a i:=(hsp.2.1 i).1 c3
  have hs2:=hsy x i T hT c2 hxl.1 hxl.2 fun h=>hp _ x _ i T hrow h hd hT
  rw[c3] at hh
  simp[c2']
  first | refine z00 hh (by simp) ?_ | refine z0c hh (by simp) ?_ | refine z0z hh (by simp) ?_ | refine z0e hh rfl rfl (by simp) (by simp) ?_ | refine⟨_,by simp,hh,?_⟩
  try simp[wi]
  refine CallsA.mono hs2 ?_
  intro r H hr
  obtain⟨E2,f2,d,T',h1,h2,rfl,rfl⟩:=hRe _ _ r H hr
  refine⟨_,rfl,rfl,rfl,.inl rfl,by simp,?_⟩
  have ho:=orU (a:=E') (b:=E2) (by omega) (by have:=h1.1; omega)
  have hin2:=n1v hai hd hin h1
  simp[ho,wi]
  have hm:(if f<f2 then (f2:Int) else f)=((Nat.max f f2:Nat):Int):=by
   by_cases h:f<f2
   ·rw[if_pos h,Nat.max_eq_max,Nat.max_eq_right (by omega)]
   ·rw[if_neg h,Nat.max_eq_max,Nat.max_eq_left (by omega)]
  rw[hm]
  exact⟨w.length+1 - (i+1),by omega,i+1,E' ||| E2,Nat.max f f2,T',by omega,by omega,rfl,hin2,h2,rfl⟩
 ·have hd: ¬Drv ps w (row.take s) a i:=fun h=>c3 ((hsp.2.1 i).2 h)
  simp only[Bool.not_eq_true] at c3
  rw[c3] at hh
  simp[c2']
  first | refine z00 hh (by simp) ?_ | refine z0c hh (by simp) ?_ | refine z0z hh (by simp) ?_ | refine z0e hh rfl rfl (by simp) (by simp) ?_ | refine⟨_,by simp,hh,?_⟩
  try simp[wi]
  exact⟨w.length+1 - (i+1),by omega,i+1,E',f,T,by omega,by omega,rfl,f1k hd hin,hT,by simp⟩
end
end Go.Am
