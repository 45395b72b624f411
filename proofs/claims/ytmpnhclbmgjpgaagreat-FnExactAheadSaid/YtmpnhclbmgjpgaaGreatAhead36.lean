/- Text 36 for FnExactAhead. -/
import Derived.Test.YtmpnhclbmgjpgaaGreatAhead35
set_option linter.unusedVariables false
set_option linter.unusedSimpArgs false
namespace Go.Am
open Go.Proofs
set_option maxHeartbeats 4000000
set_option maxRecDepth 100000
attribute [-simp] BitVec.toNat_or BitVec.toNat_and BitVec.toNat_ofInt
section
attribute [-simp] z03 z05 z02
def okB (g:TGram) (w:List Int) (r:TRun):Bool:=inB g w && runC g w r
def RkJ (g:TGram) (ss:List TSlot) (c1 c2 c3 c4:Int) (ns:List TNode) (es:List TErr) (n:Nat) (σ:St):Prop:=∃i:Nat,i≤ss.length∧n=ss.length - i∧(ss.take i).all (v0k g.parts.length ns)=true∧σ=⟨[(3,.one (.pt 1 3 [] 0 0)),(5,.one (.pt 7 5 [] 0 0)),(7,aI i)],[(3,⟨66,1,[[.ar false 0 1 (g.parts.map sISS)]]⟩),(5,⟨61,7,[[cI c1,cI c2,cI c3,cI c4,.ar false 0 2 (ss.map x0v),.ar false 0 5 (ns.map x0g),.ar false 0 3 (es.map sErr)]]⟩)]⟩
theorem b0f {α:Type} {p:α→Bool} {xs:List α} {i:Nat} (h:i<xs.length) (ht:(xs.take i).all p=true):(p xs[i]=true→(xs.take (i+1)).all p=true)∧(p xs[i]=false→xs.all p=false):=by
 constructor
 ·intro c
  rw[List.take_succ_eq_append_getElem h,List.all_append,ht]; simp[c]
 ·intro c
  rw[Bool.eq_false_iff]
  intro h2
  have:=List.all_eq_true.1 h2 _ (List.getElem_mem h)
  rw[c] at this; cases this
def d1z:K:=dc 0x41bb0410401e10610b98001201c00c10c41ba0410405b80a6a3a578078294e3b2f82a5a11a3d0b94f83049286e8f92e000428e86e8f91e001a2a1ba3e4383b81478686e8f8fe000428286e8f880467e86e8f8de000427a86e8f8ce0019da1ba3e14519ca1ba3e2b801ba11a3d27825aa11a3d2380390f80d2a05668468f42e47e01118a11a3d1b80d7a11a3d178001096a11a3d138006568468f45146528468f42e000424e8468f480464a8468f51a00e00428079dcc10fa3600108ea08046641003106e8104103508da3ad2b2b324ca03a3dca0ab9b434a814ba03a3d0b9c4110aa03a3dc20ab90042680e8f6f0c8a03a3db800421e80e8f430061a80e8f6c001085a03a3d200184a03a3d0e8a800a8a490682a8e40e680d2a050289c00429c80063c10009880022fc2000000000020a3a929a50420a59230879070238800428851061c10011400060df09f79b34479d0dd7000427051066c7005040000dc71431071430c70051c0e410410000c41ba041040682699ed52a8b7960f11957e5c3615f9600109757e14419657e5540144fb3ca4894cff86eb90394434a81523fe40004244ff850c640ff8f38038d24d30a2430ab14c2c00422c50462810090c10424810001ba0450875682030016a8203040
def k1n:Nat×List RV:=(79,[.t 6])
theorem c_202:z01 PA 202 k1n d1z:=by unfold z01; kernel_rfl
theorem n1l (g:TGram) (w:List Int) (r:TRun) (hw:z0q g<2 ^ 31) (hl:x0d g) (hr:wRun r<2 ^ 31):z06 Tryz.prog 202 [.agg (z0b g),.one (.ar false 0 1 (w.map rI)),.agg (sRun r)] (aB (okB g w r)):=by
 refine Prun c_202 (by simp[k1n]) (by simp) ?_
 (conv in d1z=>reduce); unfold k1n
 obtain⟨c1,c2,c3,c4,ss,⟨ns⟩,es⟩:=r
 have hok:=v1b g w c2 hw hl
 have hin:=z0f c4 0 599
 simp only[wRun,x0q] at hr
 have hls:=z0a x0c ss
 have hln:=z0a y0m ns
 have hgl:=z0a (wL (wL w0)) g.parts
 simp only[z0q] at hw
 have hT:okB g w ⟨c1,c2,c3,c4,ss,⟨ns⟩,es⟩=(canB g w c2 && (inr c4 0 599 && (decide (ss.length≤200) && ss.all (v0k g.parts.length ns)))):=by
  simp only[okB,inB,runC,canB]
  cases y08 w <;> cases decide (y09 g=0) <;> cases inr c2 0 w.length <;> simp[Bool.and_assoc]
 rw[hT]
 clear hT
 generalize canB g w c2=B1 at *
 obtain⟨ps⟩:=g
 simp only[z0b] at hok
 simp only at hgl hw
 simp[z0b,sRun]
 first | refine z00 hok (by simp) ?_ | refine z0c hok (by simp) ?_ | refine z0z hok (by simp) ?_ | refine z0e hok rfl rfl (by simp) (by simp) ?_ | refine⟨_,by simp,hok,?_⟩
 try simp
 cases B1 with
 | false=>simp
 | true=>
 simp
 first | refine z00 hin (by simp) ?_ | refine z0c hin (by simp) ?_ | refine z0z hin (by simp) ?_ | refine z0e hin rfl rfl (by simp) (by simp) ?_ | refine⟨_,by simp,hin,?_⟩
 try simp
 cases inr c4 0 599 with
 | false=>simp
 | true=>
 simp
 by_cases h200:ss.length≤200
 case neg=>
  have h1:(200:Int)<ss.length:=by omega
  simp[h200,h1]
 have h1: ¬(200:Int)<ss.length:=by omega
 simp[h200,h1]
 refine z04 (RkJ ⟨ps⟩ ss c1 c2 c3 c4 ns es) ss.length ⟨0,by omega,by omega,rfl,by simp⟩ ?_
 rintro n σ ⟨i,hi,rfl,hall,rfl⟩
 by_cases h:i<ss.length
 case neg=>
  have e:i=ss.length:=by omega
  subst e
  rw[List.take_length] at hall
  simp[hall]
 have wi:IntKind.i64.wrap ((i:Int)+1)=i+1:=z08 (by omega) (by omega)
 obtain⟨k1,k2⟩:=b0f h hall
 obtain⟨⟨x,u⟩,hs⟩: ∃s,ss[i]'h=s:=⟨_,rfl⟩
 rw[hs] at k1 k2
 have hi1:=z0f x 0 25
 have hi2:=z0f x 100 (100+ps.length - 1)
 have hi3:=z0f u 0 (ns.length - 1)
 have w1:IntKind.i64.wrap ((100:Int)+ps.length)=100+ps.length:=z08 (by omega) (by omega)
 have w2:IntKind.i64.wrap ((100:Int)+ps.length - 1)=100+ps.length - 1:=z08 (by omega) (by omega)
 have w3:IntKind.i64.wrap ((ns.length:Int) - 1)=ns.length - 1:=z08 (by omega) (by omega)
 have hso:v0k ps.length ns ⟨x,u⟩=((inr x 0 25 || inr x 100 (100+(ps.length:Int) - 1)) && (decide (u = -1) || (inr u 0 ((ns.length:Int) - 1) && decide ((ns.getD u.toNat default).kind=1)))):=by
  have e:(99:Int)+ps.length=100+ps.length - 1:=by omega
  simp only[v0k,y0o,e]
 rw[hso] at k1 k2
 simp[h,hs,x0v]
 have hfal:((inr x 0 25 || inr x 100 (100+(ps.length:Int) - 1)) && (decide (u = -1) || (inr u 0 ((ns.length:Int) - 1) && decide ((ns.getD u.toNat default).kind=1))))=false→aB false=aB (ss.all (v0k ps.length ns)):=fun h=>by rw[k2 h]
 have hgo2: ∀σ',σ'=(⟨[(3,.one (.pt 1 3 [] 0 0)),(5,.one (.pt 7 5 [] 0 0)),(7,aI ((i:Int)+1))],[(3,⟨66,1,[[.ar false 0 1 (ps.map sISS)]]⟩),(5,⟨61,7,[[cI c1,cI c2,cI c3,cI c4,.ar false 0 2 (ss.map x0v),.ar false 0 5 (ns.map x0g),.ar false 0 3 (es.map sErr)]]⟩)]⟩:St)→((inr x 0 25 || inr x 100 (100+(ps.length:Int) - 1)) && (decide (u = -1) || (inr u 0 ((ns.length:Int) - 1) && decide ((ns.getD u.toNat default).kind=1))))=true→∃m,m<ss.length - i∧RkJ ⟨ps⟩ ss c1 c2 c3 c4 ns es m σ':=fun σ' e h2=>⟨ss.length - (i+1),by omega,i+1,by omega,rfl,k1 h2,by rw[e]; rfl⟩
 clear k1 k2 hso hall
 generalize aB (ss.all (v0k ps.length ns))=RR at *
 generalize RkJ ⟨ps⟩ ss c1 c2 c3 c4 ns es=JJ at *
 first | refine z00 hi1 (by simp) ?_ | refine z0c hi1 (by simp) ?_ | refine z0z hi1 (by simp) ?_ | refine z0e hi1 rfl rfl (by simp) (by simp) ?_ | refine⟨_,by simp,hi1,?_⟩
 try simp
 cases hx1:inr x 0 25 with
 | false=>
   simp[w1,w2]
   first | refine z00 hi2 (by simp) ?_ | refine z0c hi2 (by simp) ?_ | refine z0z hi2 (by simp) ?_ | refine z0e hi2 rfl rfl (by simp) (by simp) ?_ | refine⟨_,by simp,hi2,?_⟩
   try simp
   cases hx2:inr x 100 (100+(ps.length:Int) - 1) with
   | false=>
     simp
     exact hfal (by rw[hx1,hx2]; rfl)
   | true=>
     simp
     by_cases hu:u = -1
     ·simp[hu,wi]
      exact hgo2 _ rfl (by rw[hx1,hx2]; simp[hu])
     simp[hu,w3]
     first | refine z00 hi3 (by simp) ?_ | refine z0c hi3 (by simp) ?_ | refine z0z hi3 (by simp) ?_ | refine z0e hi3 rfl rfl (by simp) (by simp) ?_ | refine⟨_,by simp,hi3,?_⟩
     try simp
     cases hx3:inr u 0 ((ns.length:Int) - 1) with
     | false=>
       simp
       exact hfal (by rw[hx3]; simp[hu])
     | true=>
       rw[z0l] at hx3
       have hu2:u.toNat<ns.length:=by omega
       have hu3:(0:Int)≤u:=by omega
       have hd:ns.getD u.toNat default=ns[u.toNat]'hu2:=by rw[List.getD_eq_getElem?_getD,List.getElem?_eq_getElem hu2,Option.getD_some]
       have hx4:inr u 0 ((ns.length:Int) - 1)=true:=by rw[z0l]; exact hx3
       obtain⟨⟨n1,n2,n3,n4,n5⟩,hn⟩: ∃nd,ns[u.toNat]'hu2=nd:=⟨_,rfl⟩
       rw[hn] at hd
       by_cases hn1:n1=1
       ·simp[hu2,hu3,hn,x0g,hn1,wi]
        exact hgo2 _ rfl (by rw[hx1,hx2,hx4,hd]; simp[hn1])
       ·simp[hu2,hu3,hn,x0g,hn1]
        exact hfal (by rw[hd]; simp[hu,hn1])
 | true=>
   simp
   by_cases hu:u = -1
   ·simp[hu,wi]
    exact hgo2 _ rfl (by rw[hx1]; simp[hu])
   simp[hu,w3]
   first | refine z00 hi3 (by simp) ?_ | refine z0c hi3 (by simp) ?_ | refine z0z hi3 (by simp) ?_ | refine z0e hi3 rfl rfl (by simp) (by simp) ?_ | refine⟨_,by simp,hi3,?_⟩
   try simp
   cases hx3:inr u 0 ((ns.length:Int) - 1) with
   | false=>
     simp
     exact hfal (by rw[hx3]; simp[hu])
   | true=>
     rw[z0l] at hx3
     have hu2:u.toNat<ns.length:=by omega
     have hu3:(0:Int)≤u:=by omega
     have hd:ns.getD u.toNat default=ns[u.toNat]'hu2:=by rw[List.getD_eq_getElem?_getD,List.getElem?_eq_getElem hu2,Option.getD_some]
     have hx4:inr u 0 ((ns.length:Int) - 1)=true:=by rw[z0l]; exact hx3
     obtain⟨⟨n1,n2,n3,n4,n5⟩,hn⟩: ∃nd,ns[u.toNat]'hu2=nd:=⟨_,rfl⟩
     rw[hn] at hd
     by_cases hn1:n1=1
     ·simp[hu2,hu3,hn,x0g,hn1,wi]
      exact hgo2 _ rfl (by rw[hx1,hx4,hd]; simp[hn1])
     ·simp[hu2,hu3,hn,x0g,hn1]
      exact hfal (by rw[hd]; simp[hu,hn1])
end
section
attribute [-simp] z03 z05 z02
def k_42:K:=dc 0x410e04ee8d1ca300e480d2a05347f42e4b044307f4a0cb1fd240042287f42106247f410081fd1c6006141ee81450811422c1004e81080161202040
def r_42:Nat×List RV:=(15,[.t 4])
theorem c_42:z01 PA 42 r_42 k_42:=by unfold z01; kernel_rfl
theorem n1m (h:THouse) (t:Int) (hw:v07 h<2 ^ 31) (hl:s07 h):z06 Tryz.prog 42 [.agg (z0o h),aI t] (aB (v0p h && inr t 0 ((h.tenants.length:Int) - 1))):=by
 refine Prun c_42 (by simp[r_42]) (by simp) ?_
 (conv in k_42=>reduce); unfold r_42
 have hok:=k0b h hw hl
 have hp:=fun h1=>(q0n (h:=h)).1 h1
 generalize v0p h=T at *
 obtain⟨age,cap,gs,ss,ts⟩:=h
 simp only[z0o] at hok
 simp[z0o]
 refine z00 hok (by simp) ?_
 cases T with
 | false=>simp
 | true=>
   have h5:=(hp rfl).nt
   simp only at h5
   have w1:IntKind.i64.wrap ((ts.length:Int) - 1)=ts.length - 1:=z08 (by omega) (by omega)
   simp[w1]
   refine z00 (z0f _ _ _) (by simp) ?_
   simp
end
end Go.Am
