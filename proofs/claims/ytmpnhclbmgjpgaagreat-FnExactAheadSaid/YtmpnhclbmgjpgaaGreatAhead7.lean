/- Text 7 for FnExactAhead. -/
import Derived.Test.YtmpnhclbmgjpgaaGreatAhead5
set_option linter.unusedVariables false
set_option linter.unusedSimpArgs false
namespace Go.Am
open Go.Proofs
set_option maxHeartbeats 4000000
set_option maxRecDepth 100000
attribute [-simp] BitVec.toNat_or BitVec.toNat_and BitVec.toNat_ofInt
section
@[simp] theorem z02 (xs:List TOutcome):xs.map x0s=xs.map z0u:=rfl
end
section
attribute [-simp] z03 z05 z02
def c1c:K:=dc 0x104ec1041003104e8104101509550951344252b153480042483086450001090082186040003104e8104100f08f38c30438d00108d0c118c2c00422c20461410000c413a041040282289249206094ac52070010870c018614004214200618100013a04304376b20200376b203040
def k1z:Nat×List RV:=(22,[.t 4])
theorem c_214:z01 PA 214 k1z c1c:=by unfold z01; kernel_rfl
theorem r1r (a:TLine) (ha:x08 a<2 ^ 40):z06 Tryz.prog 214 [.agg (y0x a),.agg (y0x a)] (aB true):=by
 refine Prun c_214 (by simp[k1z]) (by simp) ?_
 (conv in c1c=>reduce); unfold k1z
 simp only[x08] at ha
 simp[y0x]
 refine z00 (g0v a.frm (by omega)) (by simp) ?_
 simp
 refine z00 (g0v a.too (by omega)) (by simp) ?_
 simp
end
section
attribute [-simp] z03 z05 z02
def e15:K:=dc 0x413b0410400c413a041040038090a3724fa36d02f6914ea3500108da03246328cc00422e8089186040003104e8104103208aa31249a30b82f29148a2f001087a032061a8b40042168088186040003104e8104102c084a2ba4c103a2a001082a031c6068a00042028087185040003104e810410270a79a43049a50010a50c61a48c00428c21861410000c413a0410408828a17cc1218000428031467de00109e085185040003104e8104101d09d71a30471b00109b0c419a6400426421061410000c413a04104060261754c1175800425830c6554001094083185040003104e810410130934903044910010910c21903c00423c20861410000c413a04104038238d2cc10d3000423030462ca00108a081185040003104e810410090892063042070010870c018614004214200614100013a04304a0a820200a0a8203040
def m1t:Nat×List RV:=(57,[.t 4])
theorem c_111:z01 PA 111 m1t e15:=by unfold z01; kernel_rfl
theorem y11 (a:TTenant) (ha:y0b a<2 ^ 40):z06 Tryz.prog 111 [.agg (z07 a),.agg (z07 a)] (aB true):=by
 refine Prun c_111 (by simp[m1t]) (by simp) ?_
 (conv in e15=>reduce); unfold m1t
 simp only[y0b] at ha
 simp[z07]
 refine z00 (r1q a.queue (by omega)) (by simp) ?_
 simp
 refine z00 (g0w a.out (by omega)) (by simp) ?_
 simp
end
section
attribute [-simp] z03 z05 z02
def k_53:K:=dc 0x104ec1041005401402e4f0043c5003043104e8104101a09a6496585021e91585c12825d654a1d61405410144c12824d244a1d214044000a28020004500018338238d2cd10d30330000b1401010000371410041410031c0145039041040003104e8104100a08a2473042480c80401c60c600014100013a041040
def r_53:Nat×List RV:=(27,[.t 4])
theorem c_53:z01 PA 53 r_53 k_53:=by unfold z01; kernel_rfl
theorem d0w (xs:List TTenant) (hx:wL y0b xs<2 ^ 40):z06 Tryz.prog 53 [.one (.ar false 0 10 (xs.map z07)),.one (.ar false 0 10 (xs.map z07))] (aB true):=by
 refine Prun c_53 (by simp[r_53]) (by simp) ?_
 (conv in k_53=>reduce); unfold r_53
 have hlen:=z0a y0b xs
 simp
 refine z04 (fun n σ=>∃i:Nat,i≤xs.length∧n=xs.length - i∧σ=⟨[(0,.one (.ar false 0 10 (xs.map z07))),(1,.one (.ar false 0 10 (xs.map z07))),(5,aI i)],[]⟩) (xs.length) ⟨0,by simp⟩ ?_
 rintro n σ ⟨i,hi,rfl,rfl⟩
 by_cases h:i<xs.length
 ·have hw:=z0x y0b xs i h
  simp[h,z07]
  refine⟨_,by simp,y11 xs[i] (by omega),?_⟩
  simp
  refine⟨xs.length - (i+1),by omega,i+1,by omega,rfl,?_⟩
  rw[z08 (by omega) (by omega)]
  simp
 ·simp[h]
end
section
attribute [-simp] z03 z05 z02
def e1u:K:=dc 0x411a05a040081005441442e50004405003043104079041040642640e5834460100204005705759509da8558101550128251348a1d31404800070400450001833c23ce30d10e34334000c1401010000371410041410031c01450390410400031040790410402c22c0e4a3442810020400012412481811081c31c0006040141004039041040
def l1i:Nat×List RV:=(27,[.t 4])
theorem c_148:z01 PA 148 l1i e1u:=by unfold z01; kernel_rfl
theorem q15 (xs:List TJob) (left:Int) (hl:lL lJob xs) (h2:0≤left) (h3:left<2 ^ 40):z06 Tryz.prog 148 [.one (.ar false 0 10 (xs.map sJob)),aI left] (aI (lft left (wL wJob xs))):=by
 refine Prun c_148 (by simp[l1i]) (by simp) ?_
 (conv in e1u=>reduce); unfold l1i
 have hlen:=hl.1
 have hlw:=z0a wJob xs
 have w1:IntKind.i64.wrap (left - xs.length)=left - xs.length:=z08 (by omega) (by omega)
 by_cases h1:left - (xs.length:Int)<0
 ·rw[z0j (by omega)]
  simp[w1,h1]
 simp[w1,h1]
 refine z04 (fun n σ=>∃i:Nat,i≤xs.length∧n=xs.length - i∧(wL wJob (xs.take i):Int) - i≤left - xs.length∧σ=⟨[(0,.one (.ar false 0 10 (xs.map sJob))),(1,aI (left - xs.length - ((wL wJob (xs.take i):Int) - i))),(5,aI i)],[]⟩) (xs.length) ⟨0,by simp[wL]; omega⟩ ?_
 rintro n σ ⟨i,hi,rfl,hle,rfl⟩
 have hge:=z0a wJob (xs.take i)
 rw[List.length_take,Nat.min_eq_left hi] at hge
 by_cases h:i<xs.length
 ·have hst:=t0z wJob h
  have hle2:=x0h wJob xs (i+1)
  have hlen2:=z0a wJob (xs.drop (i+1))
  have happ:=z0y wJob (xs.take (i+1)) (xs.drop (i+1))
  rw[List.take_append_drop] at happ
  rw[List.length_drop] at hlen2
  simp[h,sJob]
  refine z00 (n1p xs[i] _ (hl.2 i h) (by omega) (by omega)) (by simp) ?_
  generalize hv:left - (xs.length:Int) - ((wL wJob (xs.take i):Int) - i)=v at *
  by_cases h4:v<(wJob xs[i]:Int)
  ·simp only[z0j h4]
   rw[z0j (by omega)]
   simp
  ·have e:lft v (wJob xs[i])=v - wJob xs[i]:=z0w (by omega)
   have n1: ¬v - (wJob xs[i]:Int)<0:=by omega
   simp[e,n1]
   refine⟨xs.length - (i+1),by omega,i+1,by omega,rfl,by omega,?_⟩
   rw[z08 (by omega) (by omega)]
   simp; omega
 ·have:i=xs.length:=by omega
  subst this
  rw[List.take_length] at hle
  rw[z0w (by omega)]
  simp
  omega
end
section
attribute [-simp] z03 z05 z02
def c15:K:=dc 0x43c20032fc3c304308204034e0012fc38308634c049ac530b00108b04218504024a0012fc2830462480010880411840401870012fc1c3006185049ac51440010840401850400c28a80430000028a80430c376b4810400828a80430000028a80430c376b4810033eb202040
def k1s:Nat×List RV:=(16,[.c 2 3 true])
theorem c_207:z01 PA 207 k1s c15:=by unfold z01; kernel_rfl
theorem q1d (a:TLine) (ha:x08 a<2 ^ 31):z06 Tryz.prog 207 [.agg (y0x a)] (.agg (q0v a)):=by
 refine Prun c_207 (by simp[k1s]) (by simp) ?_
 (conv in c15=>reduce); unfold k1s
 simp only[x08] at ha
 simp[y0x]
 refine z00 (f08 a.frm (by omega)) (by simp) ?_
 simp
 refine z00 (f08 a.too (by omega)) (by simp) ?_
 simp[q0v]
end
section
attribute [-simp] z03 z05 z02
def d11:K:=dc 0x10258158300204010d04d0b930010c1000c151500a2fc54f38a1d44c1a2a15348128249140a1d110040000f1003830090411400060cb08b2883442890c9000204004040000dc40c01040c00c7005100e410410000c70471860f6a810c5cab0430a3a810c00000000000000000010c10c000000000aa29297a251850c5000101002297a010fc041040
def l1p:Nat×List RV:=(23,[.t 2])
theorem c_155:z01 PA 155 l1p d11:=by unfold z01; kernel_rfl
theorem q1c (xs:List TJob) (hx:wL wJob xs<2 ^ 31):z06 Tryz.prog 155 [.one (.ar false 0 10 (xs.map sJob))] (.one (.ar true 63 10 (xs.map rJob))):=by
 refine Prun c_155 (by simp[l1p]) (by simp) ?_
 (conv in d11=>reduce); unfold l1p
 have hlen:=z0a wJob xs
 have hc:((xs.length:Int)≤4294967296):=by omega
 simp[hc]
 refine z04 (fun n σ=>∃i:Nat,i≤xs.length∧n=xs.length - i∧σ=⟨[(0,.one (.ar false 0 10 (xs.map sJob))),(3,.one (.vw 63 10 3 [] 0 xs.length)),(4,aI i)],[(3,⟨63,10,part rJob zJob xs i⟩)]⟩) (xs.length) ⟨0,by simp[x0t,zJob]⟩ ?_
 rintro n σ ⟨i,hi,rfl,rfl⟩
 by_cases h:i<xs.length
 ·have hw:=z0x wJob xs i h
  have:=w0p (r:=rJob) (z:=zJob) h
  simp[h,sJob]
  refine z00 (n1s xs[i] (by omega)) (by simp) ?_
  simp[h,w0o h,rJob,zJob]
  refine⟨xs.length - (i+1),by omega,i+1,by omega,rfl,?_⟩
  rw[z08 (by omega) (by omega)]
  simp only[rJob,zJob] at this
  simp[rJob,zJob,this]
 ·have:i=xs.length:=by omega
  subst this
  simp[w0n]
end
end Go.Am
