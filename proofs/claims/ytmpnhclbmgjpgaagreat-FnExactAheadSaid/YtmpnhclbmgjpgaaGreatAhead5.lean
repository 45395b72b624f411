/- Text 5 for FnExactAhead. -/
import Derived.Test.YtmpnhclbmgjpgaaGreatAhead4
set_option linter.unusedVariables false
set_option linter.unusedSimpArgs false
namespace Go.Am
open Go.Proofs
set_option maxHeartbeats 4000000
set_option maxRecDepth 100000
attribute [-simp] BitVec.toNat_or BitVec.toNat_and BitVec.toNat_ofInt
section
def e1b:K:=dc 0x40bb0410401120520b94401111000c11640640b98c01231400c11f504da02e740043281c00c10c40ba0410403b809ea3a37813828ce09768528f4be20ab92380d2a05728528f42e4ae0111ba14a3d27882ae4011aa14a3d0c0668528f47e00042628528f46e05e011d7a14a3d1c05a8528f46015a14a3d5280f8013a02e094a82a8e40e41e034a8151a00e00042428df60473e81c03a81804410051401060f308ba32c0d10aa310c9a06008a07004040000dc71851030471c61440c11871051c0e41041003102e8104102f087a10e6e3c41a8b431681800c10001ac044a2b001083a2aa411c2a05001a28001080a279811e71009a50010a50401890400c50021838828a16cd12180381f00109f79d04778401d7000427010066c5008040000dc51030451440c1107085140e41041003102e8104101a09a649650e42e580d2a056170d75800425955011d51005130010930401880400011400060d00903ce3443c300e1000c10000371030441030431c0144039041040003102e8104100d08d309300a390b92c34a814b0c00c10000ca04a2432480010880401840400ba0410016a8202040
def m1z:Nat×List RV:=(71,[.t 2])
theorem c_125:z01 PA 125 m1z e1b:=by unfold z01; kernel_rfl
theorem u0o (g:TGram) (hg:z0q g<2 ^ 31):z06 Tryz.prog 125 [.agg (z0b g)] (aB (y02 g)):=by
 refine Prun c_125 (by simp[m1z]) (by simp) ?_
 (conv in e1b=>reduce); unfold m1z
 obtain⟨ps⟩:=g
 simp only[z0q] at hg
 have hln:=z0a (wL (wL w0)) ps
 simp[z0b]
 refine z00 (z0f _ _ _) (by simp) ?_
 cases c:inr ps.length 1 20 with
 | false=>simp[y02,c]
 | true=>
 simp
 have hn:=z0l.1 c
 have hT:y02 ⟨ps⟩=(ps.drop 0).all (v0b ps.length):=by simp[y02,c]
 generalize y02 ⟨ps⟩=T at *
 refine z04 (fun n σ=>∃i:Nat,i≤ps.length∧n=ps.length - i∧T=(ps.drop i).all (v0b ps.length)∧σ=⟨[(1,.one (.pt 1 1 [] 0 0)),(3,aI ps.length),(4,aI i)],[(1,⟨66,1,[[.ar false 0 1 (ps.map sISS)]]⟩)]⟩) (ps.length) ⟨0,by simpa using hT⟩ ?_
 rintro n σ ⟨i,hi,rfl,ht,rfl⟩
 by_cases h:i<ps.length
 case neg=>
  rw[x0w h] at ht
  subst ht
  simp[h]
 rw[x05 h] at ht
 have hwa:=z0x (wL (wL w0)) ps i h
 have wi:IntKind.i64.wrap ((i:Int)+1)=i+1:=z08 (by omega) (by omega)
 generalize hal:ps[i]=al at *
 have hla:=z0a (wL w0) al
 simp[h,hal,sISS]
 refine z00 (z0f _ _ _) (by simp) ?_
 cases c2:inr al.length 1 8 with
 | false=>simp[v0b,c2] at ht; simp[ht]
 | true=>
 simp
 have hT2:T=((al.drop 0).all (p02 ps.length) && (ps.drop (i+1)).all (v0b ps.length)):=by simpa [v0b,c2] using ht
 clear ht hT
 refine z04 (fun n σ=>∃j:Nat,j≤al.length∧n=al.length - j∧T=((al.drop j).all (p02 ps.length) && (ps.drop (i+1)).all (v0b ps.length))∧σ=⟨[(1,.one (.pt 1 1 [] 0 0)),(3,aI ps.length),(4,aI i),(5,aI j)],[(1,⟨66,1,[[.ar false 0 1 (ps.map sISS)]]⟩)]⟩) (al.length) ⟨0,by simpa using hT2⟩ ?_
 rintro n σ ⟨j,hj,rfl,ht,rfl⟩
 by_cases h2:j<al.length
 case neg=>
  rw[x0w h2,Bool.true_and] at ht
  simp[h,hal,h2,sISS]
  exact⟨ps.length - (i+1),by omega,i+1,by omega,rfl,ht,by rw[wi]; simp⟩
 rw[x05 h2] at ht
 have hwr:=z0x (wL w0) al j h2
 have wj:IntKind.i64.wrap ((j:Int)+1)=j+1:=z08 (by omega) (by omega)
 generalize hrw:al[j]=row at *
 have hlr:=z0a w0 row
 simp[h,hal,h2,hrw,sISS,sIS]
 by_cases c3:row.length≤8
 case neg=>
  have c3':(8:Int)<row.length:=by omega
  simp[p02,c3] at ht
  simp[c3',ht]
 have c3': ¬(8:Int)<row.length:=by omega
 simp[c3']
 have hT3:T=((row.drop 0).all (y0o ps.length) && ((al.drop (j+1)).all (p02 ps.length) && (ps.drop (i+1)).all (v0b ps.length))):=by simpa [p02,c3,Bool.and_assoc] using ht
 clear ht hT2
 refine z04 (fun n σ=>∃k:Nat,k≤row.length∧n=row.length - k∧T=((row.drop k).all (y0o ps.length) && ((al.drop (j+1)).all (p02 ps.length) && (ps.drop (i+1)).all (v0b ps.length)))∧σ=⟨[(1,.one (.pt 1 1 [] 0 0)),(3,aI ps.length),(4,aI i),(5,aI j),(6,.one (.ar false 0 1 (row.map rI))),(7,aI k)],[(1,⟨66,1,[[.ar false 0 1 (ps.map sISS)]]⟩)]⟩) (row.length) ⟨0,by simpa using hT3⟩ ?_
 rintro n σ ⟨k,hk,rfl,ht,rfl⟩
 by_cases h3:k<row.length
 case neg=>
  rw[x0w h3,Bool.true_and] at ht
  simp[h3]
  exact⟨al.length - (j+1),by omega,j+1,by omega,rfl,ht,by rw[wj]; simp⟩
 rw[x05 h3] at ht
 have wk:IntKind.i64.wrap ((k:Int)+1)=k+1:=z08 (by omega) (by omega)
 have wn:IntKind.i64.wrap (100+(ps.length:Int))=100+ps.length:=z08 (by omega) (by omega)
 have wn2:IntKind.i64.wrap (100+(ps.length:Int) - 1)=99+ps.length:=by rw[z08 (by omega) (by omega)]; omega
 simp[h3]
 refine z00 (z0f _ _ _) (by simp) ?_
 cases c4:inr row[k] 0 25 with
 | true=>
   simp[y0o,c4] at ht
   simp
   exact⟨row.length - (k+1),by omega,k+1,by omega,rfl,by simpa using ht,by rw[wk]; simp⟩
 | false=>
   simp[h3,wn,wn2]
   refine z00 (z0f _ _ _) (by simp) ?_
   cases c5:inr row[k] 100 (99+ps.length) with
   | true=>
     simp[y0o,c4,c5] at ht
     simp
     exact⟨row.length - (k+1),by omega,k+1,by omega,rfl,by simpa using ht,by rw[wk]; simp⟩
   | false=>
     simp[y0o,c4,c5] at ht
     simp[ht]
def e1j:K:=dc 0x410a04a240e450d6a05242e480442070c718004218200614100704013a0420016a8202040
def l17:Nat×List RV:=(11,[.t 4])
theorem c_136:z01 PA 136 l17 e1j:=by unfold z01; kernel_rfl
theorem b0x (g:TGram) (k:Int) (hg:z0q g<2 ^ 31):z06 Tryz.prog 136 [.agg (z0b g),aI k] (aB (inr k 0 (g.parts.length - 1))):=by
 refine Prun c_136 (by simp[l17]) (by simp) ?_
 (conv in e1j=>reduce); unfold l17
 obtain⟨ps⟩:=g
 simp only[z0q] at hg
 have hln:=z0a (wL (wL w0)) ps
 have wn:IntKind.i64.wrap ((ps.length:Int) - 1)=ps.length - 1:=z08 (by omega) (by omega)
 simp[z0b,wn]
 refine z00 (z0n _ _ _) (by simp) ?_
 simp
theorem v1z (x n:Int):inr x 100 (99+n)=(decide (100≤x) && inr (x - 100) 0 (n - 1)):=by
 rw[Bool.eq_iff_iff,Bool.and_eq_true,decide_eq_true_iff,z0l,z0l]
 omega
def d1n:K:=dc 0x10440140fec72ba38a28f1fe34b0a0a4538af60ab930110d2bd04030af4204108b2bd240287fa0ab92101091fe040207f8718018504da4514100d04013a0420016a8202040
def k1b:Nat×List RV:=(17,[.t 4])
theorem c_190:z01 PA 190 k1b d1n:=by unfold z01; kernel_rfl
theorem j06 (g:TGram) (x:Int) (hg:z0q g<2 ^ 31) (hx:l0 x):z06 Tryz.prog 190 [.agg (z0b g),aI x] (aB (y0o g.parts.length x)):=by
 refine Prun c_190 (by simp[k1b]) (by simp) ?_
 (conv in d1n=>reduce); unfold k1b
 have hp:=b0x g (x - 100) hg
 obtain⟨ps⟩:=g
 simp only[l0] at hx
 simp only[z0b] at hp
 simp[z0b]
 refine z00 (r0r _) (by simp) ?_
 simp only[y0o,v1z]
 cases inr x 0 25 with
 | true=>simp
 | false=>
   by_cases c:100≤x
   ·have wx:IntKind.i64.wrap (x - 100)=x - 100:=z08 (by omega) (by omega)
    simp[c,wx]
    refine z00 hp (by simp) ?_
    simp
   ·simp[c]
def e1l:K:=dc 0x413b0410402510110b9240102043104e810410100903c93ce3425aa14e18034204108404018c04c2c00422c91c11c304004500018328200a209344041000dc20432481c2107005240e402070c70400c100013a0420016a8202040
def l19:Nat×List RV:=(18,[.t 4])
theorem c_138:z01 PA 138 l19 e1l:=by unfold z01; kernel_rfl
theorem o0v (g:TGram) (row:List Int) (hg:z0q g<2 ^ 31) (hr:lL l0 row):z06 Tryz.prog 138 [.agg (z0b g),.one (.ar false 0 1 (row.map rI))] (aB (row.all (y0o g.parts.length))):=by
 refine Prun c_138 (by simp[l19]) (by simp) ?_
 (conv in e1l=>reduce); unfold l19
 have hs: ∀i (h:i<row.length),_:=fun i h=>j06 g row[i] hg (hr.2 i h)
 obtain⟨ps⟩:=g
 simp only[z0b] at hs
 have hrl:=hr.1
 simp[z0b]
 refine z04 (fun n σ=>∃i:Nat,i≤row.length∧n=row.length - i∧row.all (y0o ps.length)=(row.drop i).all (y0o ps.length)∧σ=⟨[(2,.one (.pt 1 2 [] 0 0)),(7,.one (.ar false 0 1 (row.map rI))),(8,aI row.length),(9,aI i)],[(2,⟨66,1,[[.ar false 0 1 (ps.map sISS)]]⟩)]⟩) (row.length) ⟨0,by simp⟩ ?_
 rintro n σ ⟨i,hi,rfl,ht,rfl⟩
 by_cases h:i<row.length
 case neg=>
  rw[x0w h] at ht
  simp[h,ht]
 rw[x05 h] at ht
 have wi:IntKind.i64.wrap ((i:Int)+1)=i+1:=z08 (by omega) (by omega)
 simp[h]
 refine z00 (hs i h) (by simp) ?_
 cases c:y0o ps.length row[i] with
 | false=>simp[c] at ht; simp[c,ht]
 | true=>
   simp[c] at ht
   simp[c]
   exact⟨row.length - (i+1),by omega,i+1,by omega,rfl,by simpa using ht,by rw[wi]; simp⟩
def k_86:K:=dc 0x102ec104100f9c09c2e4f0040816660260b9640102043102e810410250a593b80a8c9920fa28428a916383e1808a0f810410a183e81f01f43978f11e74374600904019c05c6c00426d95c11c30400c500218368201a619344041000dc40436585cf38d0471c21590390185c35c40030400c40ba0410405825952554390b95035a81544c34c40040400044814910010913cd0470c10011400060d008040e3cd1010400370423ce3411070053c0e4038d0cd3000423010061010000c40ba0410402c22ca24a028e42e490d6a052480c81c00421c10061410000ba0410016a8202040
def r_86:Nat×List RV:=(40,[.t 2])
theorem c_86:z01 PA 86 r_86 k_86:=by unfold z01; kernel_rfl
theorem i0v (g:TGram) (hg:z0q g<2 ^ 31) (hl:x0d g):z06 Tryz.prog 86 [.agg (z0b g)] (aB (y02 g)):=by
 refine Prun c_86 (by simp[r_86]) (by simp) ?_
 (conv in k_86=>reduce); unfold r_86
 have hs: ∀row:List Int,lL l0 row→_:=fun row h=>o0v g row hg h
 obtain⟨ps⟩:=g
 simp only[z0q] at hg
 simp only[x0d] at hl
 simp only[z0b] at hs
 have hln:=z0a (wL (wL w0)) ps
 simp[z0b]
 refine z00 (z0n _ _ _) (by simp) ?_
 cases c:inr ps.length 1 20 with
 | false=>simp[y02,c]
 | true=>
 simp
 have hn:=z0l.1 c
 have hT:y02 ⟨ps⟩=(ps.drop 0).all (v0b ps.length):=by simp[y02,c]
 generalize y02 ⟨ps⟩=T at *
 refine z04 (fun n σ=>∃i:Nat,i≤ps.length∧n=ps.length - i∧T=(ps.drop i).all (v0b ps.length)∧σ=⟨[(1,.one (.pt 1 1 [] 0 0)),(13,.one (.ar false 0 1 (ps.map sISS))),(14,aI ps.length),(15,aI i)],[(1,⟨66,1,[[.ar false 0 1 (ps.map sISS)]]⟩)]⟩) (ps.length) ⟨0,by simpa using hT⟩ ?_
 rintro n σ ⟨i,hi,rfl,ht,rfl⟩
 by_cases h:i<ps.length
 case neg=>
  rw[x0w h] at ht
  subst ht
  simp[h]
 rw[x05 h] at ht
 have hwa:=z0x (wL (wL w0)) ps i h
 have hli:=hl.2 i h
 have wi:IntKind.i64.wrap ((i:Int)+1)=i+1:=z08 (by omega) (by omega)
 generalize hal:ps[i]=al at *
 have hla:=z0a (wL w0) al
 simp[h,hal,sISS]
 refine z00 (z0n _ _ _) (by simp) ?_
 cases c2:inr al.length 1 8 with
 | false=>simp[v0b,c2] at ht; simp[ht]
 | true=>
 simp
 have hT2:T=((al.drop 0).all (p02 ps.length) && (ps.drop (i+1)).all (v0b ps.length)):=by simpa [v0b,c2] using ht
 clear ht hT
 refine z04 (fun n σ=>∃j:Nat,j≤al.length∧n=al.length - j∧T=((al.drop j).all (p02 ps.length) && (ps.drop (i+1)).all (v0b ps.length))∧σ=⟨[(1,.one (.pt 1 1 [] 0 0)),(13,.one (.ar false 0 1 (ps.map sISS))),(14,aI ps.length),(15,aI i),(23,.one (.ar false 0 1 (al.map sIS))),(24,aI al.length),(25,aI j)],[(1,⟨66,1,[[.ar false 0 1 (ps.map sISS)]]⟩)]⟩) (al.length) ⟨0,by simpa using hT2⟩ ?_
 rintro n σ ⟨j,hj,rfl,ht,rfl⟩
 by_cases h2:j<al.length
 case neg=>
  rw[x0w h2,Bool.true_and] at ht
  simp[h2]
  exact⟨ps.length - (i+1),by omega,i+1,by omega,rfl,ht,by rw[wi]; simp⟩
 rw[x05 h2] at ht
 have hwr:=z0x (wL w0) al j h2
 have hlj:=hli.2 j h2
 have wj:IntKind.i64.wrap ((j:Int)+1)=j+1:=z08 (by omega) (by omega)
 generalize hrw:al[j]=row at *
 simp[h2,hrw,sIS]
 by_cases c3:row.length≤8
 case neg=>
  have c3':(8:Int)<row.length:=by omega
  simp[p02,c3] at ht
  simp[c3',ht]
 have c3': ¬(8:Int)<row.length:=by omega
 simp[c3']
 refine z00 (hs row hlj) (by simp) ?_
 cases c4:row.all (y0o ps.length) with
 | false=>simp[p02,c3,c4] at ht; simp[ht]
 | true=>
   have hr:p02 ps.length row=true:=by simp[p02,c3]; simpa using c4
   rw[hr,Bool.true_and] at ht
   simp
   exact⟨al.length - (j+1),by omega,j+1,by omega,rfl,ht,by rw[wj]; simp⟩
end
section
def rowK (n:Nat) (row:List Int):Bool:=decide (row.length≤200) && row.all (y0o n)
def k_78:K:=dc 0x104ec1041005381382e4d004345003043104e810410210a1ea054a7c9815f5e82ae590d2a057d5f42e5d044795f5c82ae4011d57d6c3715f5a00109b57d08019a57d600042655f575811d857d1405d5f4101657d5540144c94caa390394834a81524400424503c11d01403c10134c020004500018330230b24d10b2832810091401010000371420441420431c0145039041040003104e81041008088a2de473c41c60c60400c100013a0420016a8202040
def r_78:Nat×List RV:=(34,[.t 4])
theorem c_78:z01 PA 78 r_78 k_78:=by unfold z01; kernel_rfl
theorem t0v (g:TGram) (row:List Int) (hg:z0q g<2 ^ 31) (hr:row.length<2 ^ 40):z06 Tryz.prog 78 [.agg (z0b g),.one (.ar false 0 1 (row.map rI))] (aB (rowK g.parts.length row)):=by
 refine Prun c_78 (by simp[r_78]) (by simp) ?_
 (conv in k_78=>reduce); unfold r_78
 obtain⟨ps⟩:=g
 simp only[z0q] at hg
 have hln:=z0a (wL (wL w0)) ps
 simp[z0b]
 by_cases c:row.length≤200
 case neg=>
  have c':(200:Int)<row.length:=by omega
  simp[c',rowK,c]
 have c': ¬(200:Int)<row.length:=by omega
 simp[c']
 have hT:rowK ps.length row=(row.drop 0).all (y0o ps.length):=by simp[rowK,c]
 generalize rowK ps.length row=T at *
 refine z04 (fun n σ=>∃i:Nat,i≤row.length∧n=row.length - i∧T=(row.drop i).all (y0o ps.length)∧σ=⟨[(1,.one (.ar false 0 1 (row.map rI))),(2,.one (.pt 1 2 [] 0 0)),(5,aI i)],[(2,⟨66,1,[[.ar false 0 1 (ps.map sISS)]]⟩)]⟩) (row.length) ⟨0,by simpa using hT⟩ ?_
 rintro n σ ⟨k,hk,rfl,ht,rfl⟩
 by_cases h3:k<row.length
 case neg=>
  rw[x0w h3] at ht
  subst ht
  simp[h3]
 rw[x05 h3] at ht
 have wk:IntKind.i64.wrap ((k:Int)+1)=k+1:=z08 (by omega) (by omega)
 have wn:IntKind.i64.wrap (100+(ps.length:Int))=100+ps.length:=z08 (by omega) (by omega)
 have wn2:IntKind.i64.wrap (100+(ps.length:Int) - 1)=99+ps.length:=by rw[z08 (by omega) (by omega)]; omega
 simp[h3]
 refine⟨_,by simp,z0f _ _ _,?_⟩
 simp
 cases c4:inr row[k] 0 25 with
 | true=>
   simp[y0o,c4] at ht
   simp
   exact⟨row.length - (k+1),by omega,k+1,by omega,rfl,by simpa using ht,by rw[wk]; simp⟩
 | false=>
   simp[h3,wn,wn2]
   refine⟨_,by simp,z0f _ _ _,?_⟩
   simp
   cases c5:inr row[k] 100 (99+ps.length) with
   | true=>
     simp[y0o,c4,c5] at ht
     simp
     exact⟨row.length - (k+1),by omega,k+1,by omega,rfl,by simpa using ht,by rw[wk]; simp⟩
   | false=>
     simp[y0o,c4,c5] at ht
     simp[ht]
def e19:K:=dc 0x410c04ce8b20a2890a2a452c8f4100a23d081042248f481c01e8b7918e10614314100904013a0420016a8202040
def m1x:Nat×List RV:=(13,[.t 4])
theorem c_123:z01 PA 123 m1x e19:=by unfold z01; kernel_rfl
theorem v18 (g:TGram) (row:List Int) (hg:z0q g<2 ^ 31) (hr:lL l0 row):z06 Tryz.prog 123 [.agg (z0b g),.one (.ar false 0 1 (row.map rI))] (aB (rowK g.parts.length row)):=by
 refine Prun c_123 (by simp[m1x]) (by simp) ?_
 (conv in e19=>reduce); unfold m1x
 have ha:=o0v g row hg hr
 obtain⟨ps⟩:=g
 simp only[z0b] at ha
 simp[z0b]
 by_cases c:row.length≤200
 ·have c':(row.length:Int)≤200:=by omega
  simp[c']
  refine z00 ha (by simp) ?_
  simp[rowK,c]
 ·have c': ¬(row.length:Int)≤200:=by omega
  simp[c',rowK,c]
end
section
@[simp] theorem z03 (xs:List TSlot):xs.map w01=xs.map x0v:=rfl
@[simp] theorem z05 (xs:List TErr):xs.map rErr=xs.map sErr:=rfl
def d1c:K:=dc 0x46020012fc6030410820402570170b924010205558004bf160c0195512010a05cab3944c1005cab3d31411424910010910c018704f40004bf1014418f381b6814e34004234510614100c14014bf05043043000000000000000000145cab48c2c11422c91c51c404004500018328200a209344041000dc30811092070c2147005240e402070c71800421810061010000c5cab0430414a8481040085cab0430414a84810014a8202040
def k10:Nat×List RV:=(25,[.c 2 1 true])
theorem c_172:z01 PA 172 k10 d1c:=by unfold z01; kernel_rfl
theorem m0l (a:TTree) (ha:x0q a<2 ^ 31):z06 Tryz.prog 172 [.agg (u0v a)] (.agg (s0w a)):=by
 refine Prun c_172 (by simp[k10]) (by simp) ?_
 (conv in d1c=>reduce); unfold k10
 obtain⟨xs⟩:=a
 simp only[x0q] at ha
 have hlen:=z0a y0m xs
 simp[u0v]
 refine z04 (fun n σ=>∃i:Nat,i≤xs.length∧n=xs.length - i∧σ=⟨[(2,.one (.pt 1 2 [] 0 0)),(3,.one (.pt 1 3 [] 0 0)),(7,.one (.ar false 0 5 (xs.map x0g))),(8,aI xs.length),(9,aI i)],[(1,⟨58,1,[[.ar false 0 5 (xs.map x0g)]]⟩),(2,⟨58,1,[[.ar true 282 5 []]]⟩),(3,⟨58,1,[[.ar true 282 5 ((xs.take i).map x0m)]]⟩)]⟩) (xs.length) ⟨0,by simp⟩ ?_
 rintro n σ ⟨i,hi,rfl,rfl⟩
 have w1:IntKind.i64.wrap ((i:Int)+1)=i+1:=z08 (by omega) (by omega)
 by_cases h:i<xs.length
 ·have hw:=z0x y0m xs i h
  rcases ea:xs[i] with⟨x1,x2,x3,x4,x5⟩
  simp only[ea,y0m,v09] at hw
  have hc:=m0h x5 (by omega)
  have hLn:(xs.take i).length=i:=by rw[List.length_take]; omega
  have hLs:xs.take (i+1)=xs.take i ++ [xs[i]]:=List.take_succ_eq_append_getElem h
  rw[ea] at hLs
  have hbN:i+1≤4294967296:=by omega
  generalize xs.take i=L1 at *
  simp[h,ea,x0g]
  refine z00 hc (by simp) ?_
  simp[hbN,hLn]
  refine⟨xs.length - (i+1),by omega,i+1,by omega,rfl,w1,?_⟩
  have hm:=congrArg (List.map x0m) hLs
  rw[List.map_take] at hm
  rw[hm,List.take_of_length_le (by simp[hLn])]
  simp[x0m]
 ·have:i=xs.length:=by omega
  subst this
  simp[s0w]
def e16:K:=dc 0x43c20072fc3c104708204034e0012fc38118634c045a8530b00108b04618504024a0012fc281146248044a852070410870451850401460012fc181106144043a85103001083044185040083daa043172ac10c28ea0430000000000000000001c7568481007568202040
def m1u:Nat×List RV:=(16,[.c 2 7 true])
theorem c_114:z01 PA 114 m1u e16:=by unfold z01; kernel_rfl
theorem k08 (a:TRun) (ha:wRun a<2 ^ 31):z06 Tryz.prog 114 [.agg (sRun a)] (.agg (rRun a)):=by
 refine Prun c_114 (by simp[m1u]) (by simp) ?_
 (conv in e16=>reduce); unfold m1u
 obtain⟨a1,a2,a3,a4,a5,⟨a6⟩,a7⟩:=a
 simp only[wRun] at ha
 have hl5:=z0a x0c a5
 have hl7:=z0a wErr a7
 have c5:=g0s a5 (by omega)
 have c6:=m0l ⟨a6⟩ (by omega)
 have c7:=d0u a7 (by omega)
 simp only[z03] at c5
 simp only[z05] at c7
 simp only[u0v,s0w] at c6
 simp[sRun,u0v]
 refine z00 c5 (by simp) ?_
 simp
 refine z00 c6 (by simp) ?_
 simp
 refine z00 c7 (by simp) ?_
 simp[rRun,s0w]
def d1y:K:=dc 0x12208004bf220c1042081004341342e4c00430400306084004bf210c01a07dd010a05cab39f781005cab3de14114275c00109c0c018705a6c004bf1b14419a6530080433996000426171065d65451d61005540010940401930000433ca0404850052fc1410c10c0000000000000000005172ad249104509140f14740400f3800423810061c10011400060cb08b2873442890c92000422010061c4005040000dc40c2045103081107005100e410410001830012fc0c5cab0430414a8486005cab043040503040085cab0430414a84810014a8202040
def k1m:Nat×List RV:=(35,[.c 2 1 true])
theorem c_201:z01 PA 201 k1m d1y:=by unfold z01; kernel_rfl
theorem h04 (a:TTree) (ha:x0q a<2 ^ 31):z06 Tryz.prog 201 [.agg (u0v a)] (.agg (s0w a)):=by
 refine Prun c_201 (by simp[k1m]) (by simp) ?_
 (conv in d1y=>reduce); unfold k1m
 obtain⟨xs⟩:=a
 simp only[x0q] at ha
 have hlen:=z0a y0m xs
 simp[u0v]
 refine z04 (fun n σ=>∃i:Nat,i≤xs.length∧n=xs.length - i∧σ=⟨[(1,.one (.pt 1 1 [] 0 0)),(2,.one (.pt 1 2 [] 0 0)),(3,.one (.pt 1 3 [] 0 0)),(4,aI i)],[(1,⟨58,1,[[.ar false 0 5 (xs.map x0g)]]⟩),(2,⟨58,1,[[.ar true 282 5 []]]⟩),(3,⟨58,1,[[.ar true 282 5 ((xs.take i).map x0m)]]⟩)]⟩) (xs.length) ⟨0,by simp⟩ ?_
 rintro n σ ⟨i,hi,rfl,rfl⟩
 have w1:IntKind.i64.wrap ((i:Int)+1)=i+1:=z08 (by omega) (by omega)
 by_cases h:i<xs.length
 ·have hw:=z0x y0m xs i h
  rcases ea:xs[i] with⟨x1,x2,x3,x4,x5⟩
  simp only[ea,y0m,v09] at hw
  have hb5:x5.length≤4294967296:=by omega
  have hLn:(xs.take i).length=i:=by rw[List.length_take]; omega
  have hLs:xs.take (i+1)=xs.take i ++ [xs[i]]:=List.take_succ_eq_append_getElem h
  rw[ea] at hLs
  have hbN:i+1≤4294967296:=by omega
  generalize xs.take i=L1 at *
  simp[h,ea,x0g,hbN,hLn,hb5]
  refine⟨xs.length - (i+1),by omega,i+1,by omega,rfl,w1,?_⟩
  have hm:=congrArg (List.map x0m) hLs
  rw[List.map_take] at hm
  rw[hm,List.take_of_length_le (by simp[hLn])]
  simp[x0m]
 ·have:i=xs.length:=by omega
  subst this
  simp[s0w]
def e1x:K:=dc 0x1130801cbf130c11c208101148004bf120c619140e0180f6a8e40f00108f04618e0000f6a8f18100c34004bf0d0c518c2c186a14b28104228114614100824004bf090c41881c50100a3a8e1c60010860441850000a3a8f1810040c01cbf030f6a810c5cab0430a3a810c00000000000000000071d5a12101047083040083daa043172ac10c28ea0430000000000000000001c7568481007568202040
def l1l:Nat×List RV:=(20,[.c 2 7 true])
theorem c_151:z01 PA 151 l1l e1x:=by unfold z01; kernel_rfl
theorem q0b (a:TRun) (ha:wRun a<2 ^ 31):z06 Tryz.prog 151 [.agg (sRun a)] (.agg (rRun a)):=by
 refine Prun c_151 (by simp[l1l]) (by simp) ?_
 (conv in e1x=>reduce); unfold l1l
 obtain⟨a1,a2,a3,a4,a5,⟨a6⟩,a7⟩:=a
 simp only[wRun] at ha
 have hl5:=z0a x0c a5
 have hl7:=z0a wErr a7
 have hb5:a5.length≤4294967296:=by omega
 have hb7:a7.length≤4294967296:=by omega
 have c6:=h04 ⟨a6⟩ (by omega)
 simp only[u0v,s0w] at c6
 simp[sRun,u0v,hb5]
 refine z00 c6 (by simp) ?_
 simp[hb7,rRun,s0w]
end
section
attribute [-simp] z03 z05
def c18:K:=dc 0x1041c11ccac5f061432eb14604014000404013a041040
def k1v:Nat×List RV:=(8,[.t 4])
theorem c_210:z01 PA 210 k1v c18:=by unfold z01; kernel_rfl
theorem q0a (xs ys:List TConf) (hx:wL y0f xs<2 ^ 40):z06 Tryz.prog 210 [.one (.ar false 0 2 (xs.map z0k)),.one (.ar false 0 2 (ys.map z0k))] (aB (decide (xs=ys))):=by
 refine Prun c_210 (by simp[k1v]) (by simp) ?_
 (conv in c18=>reduce); unfold k1v
 have hlen:=z0a y0f xs
 simp
 refine z00 (z1w 244 (by kernel_rfl) xs ys (by omega) fun i j h h2=>m0m _ _ (by have:=z0x y0f xs i h; omega)) (by simp) ?_
 simp
end
section
attribute [-simp] z03 z05
theorem b0p {α:Type} (f:α→Int) (xs:List α) (k:Int) (i:Nat) (h:i<xs.length):((xs.map f).take (i+1)).count k=((xs.map f).take i).count k+(if f xs[i]=k then 1 else 0):=by
 rw[List.take_succ_eq_append_getElem (by simpa using h),List.count_append]
 simp[List.count_cons]
def k_59:K:=dc 0x412c044a050020401e00600b97c011f1c00c116b043a2a840102a29045a05068a272c40280409e60010a69401a59230c790702388004288224684500c0431400860de09e75a34475c0dc6c00426c2246687005040000dc71420451c50811070851c0e4104100018e04e0b934010d1800c115905960f004617045a055d654b1160405540010944c01934912874860114000424022063c500c0411400060cc08c2c83442ca0ca240042242206206005040000dc6142045185081107005180e41041000140e4104100403904200a0a8202040
def r_59:Nat×List RV:=(45,[.t 4])
theorem c_59:z01 PA 59 r_59 k_59:=by unfold z01; kernel_rfl
theorem b0y (t:TTenant) (k:Int) (hq:t.queue.length≤4) (ho:t.out.length≤100):z06 Tryz.prog 59 [.agg (z07 t),aI k] (aI (hasT t k)):=by
 refine Prun c_59 (by simp[r_59]) (by simp) ?_
 (conv in k_59=>reduce); unfold r_59
 have wr: ∀(a b:Nat),a≤4→b≤100→IntKind.i64.wrap ((a:Int)+b)=(a:Int)+b:=fun a b h1 h2=>z08 (by omega) (by omega)
 simp[z07]
 refine z04 (fun n σ=>∃i:Nat,i≤t.queue.length∧n=t.queue.length - i∧σ=⟨[(1,aI k),(2,.one (.pt 10 2 [] 0 0)),(5,aI (((qT t).take i).count k)),(6,aI i)],[(2,⟨42,10,[z07 t]⟩)]⟩) t.queue.length ⟨0,by simp[z07]⟩ ?_
 rintro n σ ⟨i,hi,rfl,rfl⟩
 by_cases h:i<t.queue.length
 ·have hc:=b0p TJob.ticket t.queue k i h
  rw[show t.queue.map TJob.ticket=qT t from rfl] at hc
  have hb:((qT t).take i).count k≤i:=Nat.le_trans List.count_le_length (by simp; omega)
  generalize ((qT t).take i).count k=n0 at *
  have w1:IntKind.i64.wrap ((i:Int)+1)=i+1:=z08 (by omega) (by omega)
  have w2:IntKind.i64.wrap ((n0:Int)+1)=n0+1:=z08 (by omega) (by omega)
  have w3:IntKind.i64.wrap (n0:Int)=n0:=z08 (by omega) (by omega)
  simp[z07,h,sJob]
  refine z00 (i0x _) (by simp) ?_
  by_cases c:t.queue[i].ticket=k
  ·simp[c,w1,w2]
   refine⟨t.queue.length - (i+1),by omega,i+1,by omega,rfl,?_⟩
   simp[hc,c,z07]
  ·simp[c,w1,w3]
   refine⟨t.queue.length - (i+1),by omega,i+1,by omega,rfl,?_⟩
   simp[hc,c,z07]
 have:i=t.queue.length:=by omega
 subst this
 have e0:(qT t).take t.queue.length=qT t:=List.take_of_length_le (by simp[qT])
 have hb0:(qT t).count k≤4:=Nat.le_trans List.count_le_length (by simp[qT]; omega)
 rw[e0]
 simp[z07]
 refine z04 (fun n σ=>∃i:Nat,i≤t.out.length∧n=t.out.length - i∧σ=⟨[(1,aI k),(2,.one (.pt 10 2 [] 0 0)),(5,aI ((qT t).count k+((oT t).take i).count k:Nat)),(7,aI i)],[(2,⟨42,10,[z07 t]⟩)]⟩) t.out.length ⟨0,by simp[z07]⟩ ?_
 rintro n σ ⟨i,hi,rfl,rfl⟩
 by_cases h:i<t.out.length
 ·have hc:=b0p TOutcome.ticket t.out k i h
  rw[show t.out.map TOutcome.ticket=oT t from rfl] at hc
  have hb:((oT t).take i).count k≤i:=Nat.le_trans List.count_le_length (by simp; omega)
  generalize ((oT t).take i).count k=n1 at *
  generalize (qT t).count k=n0 at *
  have w1:IntKind.i64.wrap ((i:Int)+1)=i+1:=z08 (by omega) (by omega)
  have w2:IntKind.i64.wrap ((n0:Int)+n1+1)=n0+n1+1:=z08 (by omega) (by omega)
  have w3:IntKind.i64.wrap ((n0:Int)+n1)=n0+n1:=z08 (by omega) (by omega)
  simp[z07,h,z0u]
  refine z00 (i0x _) (by simp) ?_
  by_cases c:t.out[i].ticket=k
  ·simp[c,w1,w2]
   refine⟨t.out.length - (i+1),by omega,i+1,by omega,rfl,?_⟩
   simp[hc,c,z07]; omega
  ·simp[c,w1,w3]
   refine⟨t.out.length - (i+1),by omega,i+1,by omega,rfl,?_⟩
   simp[hc,c,z07]
 have:i=t.out.length:=by omega
 subst this
 have e0:(oT t).take t.out.length=oT t:=List.take_of_length_le (by simp[oT])
 rw[e0]
 simp[z07,hasT]
end
section
attribute [-simp] z03 z05
def b18:K:=dc 0x104ec1041005401402e4f0043c5003043104e8104101a09a649658502ceb1585c10825d65421d61405410144c10824d24421d214044000a28020004500018338238d2cd10d30330000b1401010000371410041410031c0145039041040003104e8104100a08a2473042480c80401c60c600014100013a041040
def j1u:Nat×List RV:=(27,[.t 4])
theorem c_252:z01 PA 252 j1u b18:=by unfold z01; kernel_rfl
theorem g0v (xs:List TConf) (hx:wL y0f xs<2 ^ 40):z06 Tryz.prog 252 [.one (.ar false 0 2 (xs.map z0k)),.one (.ar false 0 2 (xs.map z0k))] (aB true):=by
 refine Prun c_252 (by simp[j1u]) (by simp) ?_
 (conv in b18=>reduce); unfold j1u
 have hlen:=z0a y0f xs
 simp
 refine z04 (fun n σ=>∃i:Nat,i≤xs.length∧n=xs.length - i∧σ=⟨[(0,.one (.ar false 0 2 (xs.map z0k))),(1,.one (.ar false 0 2 (xs.map z0k))),(5,aI i)],[]⟩) (xs.length) ⟨0,by simp⟩ ?_
 rintro n σ ⟨i,hi,rfl,rfl⟩
 by_cases h:i<xs.length
 ·have hw:=z0x y0f xs i h
  simp[h,z0k]
  refine⟨_,by simp,r1n xs[i] (by omega),?_⟩
  simp
  refine⟨xs.length - (i+1),by omega,i+1,by omega,rfl,?_⟩
  rw[z08 (by omega) (by omega)]
  simp
 ·simp[h]
end
section
attribute [-simp] z03 z05
def d1a:K:=dc 0x104ec1041005401402e4f0043c5003043104e8104101a09a649658502bea1585c12825d654a1d61405410144c12824d244a1d214044000a28020004500018338238d2cd10d30330000b1401010000371410041410031c0145039041040003104e8104100a08a2473042480c80401c60c600014100013a041040
def l1y:Nat×List RV:=(27,[.t 4])
theorem c_164:z01 PA 164 l1y d1a:=by unfold z01; kernel_rfl
theorem r1q (xs:List TJob) (hx:wL wJob xs<2 ^ 40):z06 Tryz.prog 164 [.one (.ar false 0 10 (xs.map sJob)),.one (.ar false 0 10 (xs.map sJob))] (aB true):=by
 refine Prun c_164 (by simp[l1y]) (by simp) ?_
 (conv in d1a=>reduce); unfold l1y
 have hlen:=z0a wJob xs
 simp
 refine z04 (fun n σ=>∃i:Nat,i≤xs.length∧n=xs.length - i∧σ=⟨[(0,.one (.ar false 0 10 (xs.map sJob))),(1,.one (.ar false 0 10 (xs.map sJob))),(5,aI i)],[]⟩) (xs.length) ⟨0,by simp⟩ ?_
 rintro n σ ⟨i,hi,rfl,rfl⟩
 by_cases h:i<xs.length
 ·have hw:=z0x wJob xs i h
  simp[h,sJob]
  refine⟨_,by simp,n1i xs[i] (by omega),?_⟩
  simp
  refine⟨xs.length - (i+1),by omega,i+1,by omega,rfl,?_⟩
  rw[z08 (by omega) (by omega)]
  simp
 ·simp[h]
end
section
attribute [-simp] z03 z05
def d1u:K:=dc 0x4111051040081003104079041040402400e4f3443c100204000138138d30206b14d04030b04708b0831850400c4101e4104100a08a03924d1090400810000480481c60bfa851c100614004214208614100403904200a66b202040
def k1i:Nat×List RV:=(18,[.t 4])
theorem c_197:z01 PA 197 k1i d1u:=by unfold z01; kernel_rfl
theorem n1p (a:TJob) (left:Int) (h:lJob a) (h2:0≤left) (h3:left<2 ^ 40):z06 Tryz.prog 197 [.agg (sJob a),aI left] (aI (lft left (wJob a))):=by
 refine Prun c_197 (by simp[k1i]) (by simp) ?_
 (conv in d1u=>reduce); unfold k1i
 simp only[lJob] at h
 simp only[wJob]
 obtain⟨hl0,hl1⟩:=h
 simp[sJob]
 refine z00 (n0q a.input (left) hl0 (by omega) (by omega)) (by simp) ?_
 by_cases g0:left<(wL w0 a.input:Int)
 case pos=>simp only[z0j g0]; simp; try rw[z0j (by omega)]
 simp only[z0w (show (wL w0 a.input:Int)≤left by omega)]
 have n0: ¬left - (wL w0 a.input:Int)<0:=by omega
 simp[n0]
 refine z00 (n1q a.run (left - (wL w0 a.input:Int)) hl1 (by omega) (by omega)) (by simp) ?_
 by_cases g1:left - (wL w0 a.input:Int)<(wRun a.run:Int)
 case pos=>simp only[z0j g1]; simp; try rw[z0j (by omega)]
 simp only[z0w (show (wRun a.run:Int)≤left - (wL w0 a.input:Int) by omega)]
 have n1: ¬left - (wL w0 a.input:Int) - (wRun a.run:Int)<0:=by omega
 simp[n1]
 try rw[z0w (by omega)]
 try omega
end
section
attribute [-simp] z03 z05
def c1x:K:=dc 0x40960560c0081004341342e4c00430400305454008bf153ce08751306dac54d20420924500874440100003c400e0c02410450001832c22ca20d10a2432400081001010000371030041030031c01440390410400031c11c61810c10c00000a00a2a251850c50001010020a2a010fc041040
def j1j:Nat×List RV:=(23,[.t 2])
theorem c_241:z01 PA 241 j1j c1x:=by unfold z01; kernel_rfl
theorem f08 (xs:List TConf) (hx:wL y0f xs<2 ^ 31):z06 Tryz.prog 241 [.one (.ar false 0 2 (xs.map z0k))] (.one (.ar true 74 2 (xs.map u0t))):=by
 refine Prun c_241 (by simp[j1j]) (by simp) ?_
 (conv in c1x=>reduce); unfold j1j
 have hlen:=z0a y0f xs
 have hc:((xs.length:Int)≤4294967296):=by omega
 simp[hc]
 refine z04 (fun n σ=>∃i:Nat,i≤xs.length∧n=xs.length - i∧σ=⟨[(0,.one (.ar false 0 2 (xs.map z0k))),(3,.one (.vw 74 2 3 [] 0 xs.length)),(4,aI i)],[(3,⟨74,2,part u0t x1c xs i⟩)]⟩) (xs.length) ⟨0,by simp[x0t,x1c]⟩ ?_
 rintro n σ ⟨i,hi,rfl,rfl⟩
 by_cases h:i<xs.length
 ·have hw:=z0x y0f xs i h
  have:=w0p (r:=u0t) (z:=x1c) h
  simp[h,z0k]
  refine z00 (q19 xs[i] (by omega)) (by simp) ?_
  simp[h,w0o h,u0t,x1c]
  refine⟨xs.length - (i+1),by omega,i+1,by omega,rfl,?_⟩
  rw[z08 (by omega) (by omega)]
  simp only[u0t,x1c] at this
  simp[u0t,x1c,this]
 ·have:i=xs.length:=by omega
  subst this
  simp[w0n]
end
section
attribute [-simp] z03 z05
def c16:K:=dc 0x448200a2fc48304a0820404110072fc4430c640f04aac53ce04708e04318504030d0012fc34308630b048ac52ca00108a0421850402090012fc2430462070010870411840401460012fc1830061440010840401840400c3daa043172ac10c28ea04300000000000000000004304300000000028a5e8481040083daa043172ac10c28ea04300000000000000000004304300000000028a5e848100a66b202040
def k1t:Nat×List RV:=(19,[.c 2 10 true])
theorem c_208:z01 PA 208 k1t c16:=by unfold z01; kernel_rfl
theorem n1s (a:TJob) (ha:wJob a<2 ^ 31):z06 Tryz.prog 208 [.agg (sJob a)] (.agg (rJob a)):=by
 refine Prun c_208 (by simp[k1t]) (by simp) ?_
 (conv in c16=>reduce); unfold k1t
 simp only[wJob] at ha
 simp[sJob]
 refine z00 (n0r a.input (by omega)) (by simp) ?_
 simp
 refine z00 (n1t a.run (by omega)) (by simp[rRun]) ?_
 simp[rJob,rRun]
end
section
attribute [-simp] z03 z05
def d12:K:=
 .seq (
  .reg none [⟨(some 2),none,.asn (.c (.ar true 49 3 []))⟩]) (
 .seq (
  .reg none [⟨(some 5),none,.mv (.t 0)⟩,
   ⟨(some 6),none,.len (.t 5)⟩,
   ⟨(some 7),none,.mks 49 3 32 [(.int .i64 (0)),(.int .i64 (0)),(.str ⟨#[]⟩)] (.t 6) (.t 6)⟩,
   ⟨(some 3),none,.asn (.t 7)⟩]) (
 .seq (
  .seq (
   .reg none [⟨(some 4),none,.asn (.c (.int .i64 (0)))⟩]) (
  .block 0 (
   .loop (some ([0,3,4],[0,3,4,1000])) (
    .seq (
     .seq (
      .reg none [⟨(some 8),none,.mv (.t 4)⟩,
       ⟨(some 9),none,.mv (.t 0)⟩,
       ⟨(some 10),none,.len (.t 9)⟩,
       ⟨(some 11),none,.bin .lss (.t 8) (.t 10)⟩]) (
     .cond (.t 11) (
      .skip) (
      .exit 0))) (
    .seq (
     .block 1 (
      .reg none [⟨(some 14),none,.mv (.t 3)⟩,
       ⟨(some 15),none,.mv (.t 4)⟩,
       ⟨(some 16),none,.mv (.t 0)⟩,
       ⟨(some 17),none,.mv (.t 4)⟩,
       ⟨(some 18),none,.iad 3 (.t 16) (.t 17)⟩,
       ⟨(some 19),none,.ld 3 true (.t 18)⟩,
       ⟨(some 20),none,.call 209 [(.t 19)]⟩,
       ⟨(some 21),none,.iad 3 (.t 14) (.t 15)⟩,
       ⟨none,none,.st 3 false (.t 21) (.t 20)⟩])) (
    .reg none [⟨(some 12),none,.mv (.t 4)⟩,
     ⟨(some 13),none,.bin .add (.t 12) (.c (.int .i64 (1)))⟩,
     ⟨(some 4),none,.asn (.t 13)⟩])))))) (
 .seq (
  .reg none [⟨(some 22),none,.mv (.t 3)⟩,
   ⟨(some 2),none,.asn (.t 22)⟩]) (
 .ret))))
def l1q:Nat×List RV:=(23,[.t 2])
theorem c_156:z01 PA 156 l1q d12:=by unfold z01; kernel_rfl
theorem f09 (xs:List TOutcome) (hx:wL y06 xs<2 ^ 31):z06 Tryz.prog 156 [.one (.ar false 0 3 (xs.map z0u))] (.one (.ar true 49 3 (xs.map x0s))):=by
 refine Prun c_156 (by simp[l1q]) (by simp) ?_
 unfold d12 l1q
 have hlen:=z0a y06 xs
 have hc:((xs.length:Int)≤4294967296):=by omega
 simp[hc]
 refine z04 (fun n σ=>∃i:Nat,i≤xs.length∧n=xs.length - i∧σ=⟨[(0,.one (.ar false 0 3 (xs.map z0u))),(3,.one (.vw 49 3 3 [] 0 xs.length)),(4,aI i)],[(3,⟨49,3,part x0s q02 xs i⟩)]⟩) (xs.length) ⟨0,by simp[x0t,q02]⟩ ?_
 rintro n σ ⟨i,hi,rfl,rfl⟩
 by_cases h:i<xs.length
 ·have hw:=z0x y06 xs i h
  have:=w0p (r:=x0s) (z:=q02) h
  simp[h,z0u]
  refine z00 (c04 xs[i] (by omega)) (by simp) ?_
  simp[h,w0o h,x0s,q02]
  refine⟨xs.length - (i+1),by omega,i+1,by omega,rfl,?_⟩
  rw[z08 (by omega) (by omega)]
  simp only[x0s,q02] at this
  simp[x0s,q02,this]
 ·have:i=xs.length:=by omega
  subst this
  simp[w0n]
end
end Go.Am
