/- Text 9 for FnExactAhead. -/
import Derived.Test.YtmpnhclbmgjpgaaGreatAhead8
set_option linter.unusedVariables false
set_option linter.unusedSimpArgs false
namespace Go.Am
open Go.Proofs
set_option maxHeartbeats 4000000
set_option maxRecDepth 100000
attribute [-simp] BitVec.toNat_or BitVec.toNat_and BitVec.toNat_ofInt
section
attribute [-simp] z03 z05 z02
def e14:K:=dc 0x104ec1041003104e8104100f08f38938d2c2ee914d3000423030462ca00108a081186040003104e810410090892063042070010870c018614004214200614100013a043042ce9202002ce9203040
def m1s:Nat×List RV:=(16,[.t 4])
theorem c_110:z01 PA 110 m1s e14:=by unfold z01; kernel_rfl
theorem v16 (a:TStore) (ha:y0k a<2 ^ 40):z06 Tryz.prog 110 [.agg (y0h a),.agg (y0h a)] (aB true):=by
 refine Prun c_110 (by simp[m1s]) (by simp) ?_
 (conv in e14=>reduce); unfold m1s
 simp only[y0k] at ha
 simp[y0h]
 refine z00 (v13 a.lines (by omega)) (by simp) ?_
 simp
end
section
attribute [-simp] z03 z05 z02
def e1t:K:=dc 0x411a05a040081005441442e50004405003043104079041040642640e5834460100204005705759509ca855810155010c25134831d31404800070400450001833c23ce30d10e34334000c1401010000371410041410031c01450390410400031040790410402c22c0e4a3442810020400012412481811081c31c0006040141004039041040
def l1h:Nat×List RV:=(27,[.t 4])
theorem c_147:z01 PA 147 l1h e1t:=by unfold z01; kernel_rfl
theorem v1m (xs:List TLine) (left:Int) (hl:lL y1g xs) (h2:0≤left) (h3:left<2 ^ 40):z06 Tryz.prog 147 [.one (.ar false 0 3 (xs.map y0x)),aI left] (aI (lft left (wL x08 xs))):=by
 refine Prun c_147 (by simp[l1h]) (by simp) ?_
 (conv in e1t=>reduce); unfold l1h
 have hlen:=hl.1
 have hlw:=z0a x08 xs
 have w1:IntKind.i64.wrap (left - xs.length)=left - xs.length:=z08 (by omega) (by omega)
 by_cases h1:left - (xs.length:Int)<0
 ·rw[z0j (by omega)]
  simp[w1,h1]
 simp[w1,h1]
 refine z04 (fun n σ=>∃i:Nat,i≤xs.length∧n=xs.length - i∧(wL x08 (xs.take i):Int) - i≤left - xs.length∧σ=⟨[(0,.one (.ar false 0 3 (xs.map y0x))),(1,aI (left - xs.length - ((wL x08 (xs.take i):Int) - i))),(5,aI i)],[]⟩) (xs.length) ⟨0,by simp[wL]; omega⟩ ?_
 rintro n σ ⟨i,hi,rfl,hle,rfl⟩
 have hge:=z0a x08 (xs.take i)
 rw[List.length_take,Nat.min_eq_left hi] at hge
 by_cases h:i<xs.length
 ·have hst:=t0z x08 h
  have hle2:=x0h x08 xs (i+1)
  have hlen2:=z0a x08 (xs.drop (i+1))
  have happ:=z0y x08 (xs.take (i+1)) (xs.drop (i+1))
  rw[List.take_append_drop] at happ
  rw[List.length_drop] at hlen2
  simp[h,y0x]
  refine z00 (q16 xs[i] _ (hl.2 i h) (by omega) (by omega)) (by simp) ?_
  generalize hv:left - (xs.length:Int) - ((wL x08 (xs.take i):Int) - i)=v at *
  by_cases h4:v<(x08 xs[i]:Int)
  ·simp only[z0j h4]
   rw[z0j (by omega)]
   simp
  ·have e:lft v (x08 xs[i])=v - x08 xs[i]:=z0w (by omega)
   have n1: ¬v - (x08 xs[i]:Int)<0:=by omega
   simp[e,n1]
   refine⟨xs.length - (i+1),by omega,i+1,by omega,rfl,by omega,?_⟩
   rw[z08 (by omega) (by omega)]
   simp; omega
 ·have:i=xs.length:=by omega
  subst this
  rw[List.take_length] at hle
  rw[z0w (by omega)]
  simp
  omega
end
section
attribute [-simp] z03 z05 z02
def k_41:K:=dc 0x411a05a040081005441442e50004405003043104079041040642640e583446010020400570575950baa0558101550128251348a1d31404800070400450001833c23ce30d10e34334000c1401010000371410041410031c01450390410400031040790410402c22c0e4a3442810020400012412481811081c31c0006040141004039041040
def r_41:Nat×List RV:=(27,[.t 4])
theorem c_41:z01 PA 41 r_41 k_41:=by unfold z01; kernel_rfl
theorem c03 (xs:List TTenant) (left:Int) (hl:lL q0r xs) (h2:0≤left) (h3:left<2 ^ 40):z06 Tryz.prog 41 [.one (.ar false 0 10 (xs.map z07)),aI left] (aI (lft left (wL y0b xs))):=by
 refine Prun c_41 (by simp[r_41]) (by simp) ?_
 (conv in k_41=>reduce); unfold r_41
 have hlen:=hl.1
 have hlw:=z0a y0b xs
 have w1:IntKind.i64.wrap (left - xs.length)=left - xs.length:=z08 (by omega) (by omega)
 by_cases h1:left - (xs.length:Int)<0
 ·rw[z0j (by omega)]
  simp[w1,h1]
 simp[w1,h1]
 refine z04 (fun n σ=>∃i:Nat,i≤xs.length∧n=xs.length - i∧(wL y0b (xs.take i):Int) - i≤left - xs.length∧σ=⟨[(0,.one (.ar false 0 10 (xs.map z07))),(1,aI (left - xs.length - ((wL y0b (xs.take i):Int) - i))),(5,aI i)],[]⟩) (xs.length) ⟨0,by simp[wL]; omega⟩ ?_
 rintro n σ ⟨i,hi,rfl,hle,rfl⟩
 have hge:=z0a y0b (xs.take i)
 rw[List.length_take,Nat.min_eq_left hi] at hge
 by_cases h:i<xs.length
 ·have hst:=t0z y0b h
  have hle2:=x0h y0b xs (i+1)
  have hlen2:=z0a y0b (xs.drop (i+1))
  have happ:=z0y y0b (xs.take (i+1)) (xs.drop (i+1))
  rw[List.take_append_drop] at happ
  rw[List.length_drop] at hlen2
  simp[h,z07]
  refine z00 (y1a xs[i] _ (hl.2 i h) (by omega) (by omega)) (by simp) ?_
  generalize hv:left - (xs.length:Int) - ((wL y0b (xs.take i):Int) - i)=v at *
  by_cases h4:v<(y0b xs[i]:Int)
  ·simp only[z0j h4]
   rw[z0j (by omega)]
   simp
  ·have e:lft v (y0b xs[i])=v - y0b xs[i]:=z0w (by omega)
   have n1: ¬v - (y0b xs[i]:Int)<0:=by omega
   simp[e,n1]
   refine⟨xs.length - (i+1),by omega,i+1,by omega,rfl,by omega,?_⟩
   rw[z08 (by omega) (by omega)]
   simp; omega
 ·have:i=xs.length:=by omega
  subst this
  rw[List.take_length] at hle
  rw[z0w (by omega)]
  simp
  omega
end
section
attribute [-simp] z03 z05 z02
def d10:K:=dc 0x10258158300204010d04d0b930010c1000c15150032fc54f3831d44c19ea1534810c24914031d110040000f1003830090411400060cb08b2883442890c9000204004040000dc40c01040c00c7005100e410410000c70471860a2a010c00000a2a010c34280ddae51850c50001010020ddac10fc041040
def l1o:Nat×List RV:=(23,[.t 2])
theorem c_154:z01 PA 154 l1o d10:=by unfold z01; kernel_rfl
theorem v1t (xs:List TLine) (hx:wL x08 xs<2 ^ 31):z06 Tryz.prog 154 [.one (.ar false 0 3 (xs.map y0x))] (.one (.ar true 261 3 (xs.map q0v))):=by
 refine Prun c_154 (by simp[l1o]) (by simp) ?_
 (conv in d10=>reduce); unfold l1o
 have hlen:=z0a x08 xs
 have hc:((xs.length:Int)≤4294967296):=by omega
 simp[hc]
 refine z04 (fun n σ=>∃i:Nat,i≤xs.length∧n=xs.length - i∧σ=⟨[(0,.one (.ar false 0 3 (xs.map y0x))),(3,.one (.vw 261 3 3 [] 0 xs.length)),(4,aI i)],[(3,⟨261,3,part q0v x1e xs i⟩)]⟩) (xs.length) ⟨0,by simp[x0t,x1e]⟩ ?_
 rintro n σ ⟨i,hi,rfl,rfl⟩
 by_cases h:i<xs.length
 ·have hw:=z0x x08 xs i h
  have:=w0p (r:=q0v) (z:=x1e) h
  simp[h,y0x]
  refine z00 (q1d xs[i] (by omega)) (by simp) ?_
  simp[h,w0o h,q0v,x1e]
  refine⟨xs.length - (i+1),by omega,i+1,by omega,rfl,?_⟩
  rw[z08 (by omega) (by omega)]
  simp only[q0v,x1e] at this
  simp[q0v,x1e,this]
 ·have:i=xs.length:=by omega
  subst this
  simp[w0n]
end
section
attribute [-simp] z03 z05 z02
def k_48:K:=dc 0x40960560c0081004341342e4c00430400305454028bf153ce287513040a454d204a0924502874440100003c400e0c02410450001832c22ca20d10a2432400081001010000371030041030031c01440390410400031c11c6183268043297a010c000000000000000000000000000000000000a229282a251850c5000101002282a010fc041040
def r_48:Nat×List RV:=(23,[.t 2])
theorem c_48:z01 PA 48 r_48 k_48:=by unfold z01; kernel_rfl
theorem c05 (xs:List TTenant) (hx:wL y0b xs<2 ^ 31):z06 Tryz.prog 48 [.one (.ar false 0 10 (xs.map z07))] (.one (.ar true 42 10 (xs.map v04))):=by
 refine Prun c_48 (by simp[r_48]) (by simp) ?_
 (conv in k_48=>reduce); unfold r_48
 have hlen:=z0a y0b xs
 have hc:((xs.length:Int)≤4294967296):=by omega
 simp[hc]
 refine z04 (fun n σ=>∃i:Nat,i≤xs.length∧n=xs.length - i∧σ=⟨[(0,.one (.ar false 0 10 (xs.map z07))),(3,.one (.vw 42 10 3 [] 0 xs.length)),(4,aI i)],[(3,⟨42,10,part v04 o0r xs i⟩)]⟩) (xs.length) ⟨0,by simp[x0t,o0r]⟩ ?_
 rintro n σ ⟨i,hi,rfl,rfl⟩
 by_cases h:i<xs.length
 ·have hw:=z0x y0b xs i h
  have:=w0p (r:=v04) (z:=o0r) h
  simp[h,z07]
  refine z00 (y1d xs[i] (by omega)) (by simp) ?_
  simp[h,w0o h,v04,o0r]
  refine⟨xs.length - (i+1),by omega,i+1,by omega,rfl,?_⟩
  rw[z08 (by omega) (by omega)]
  simp only[v04,o0r] at this
  simp[v04,o0r,this]
 ·have:i=xs.length:=by omega
  subst this
  simp[w0n]
end
end Go.Am
