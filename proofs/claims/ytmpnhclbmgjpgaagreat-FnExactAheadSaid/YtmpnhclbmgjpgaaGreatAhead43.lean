/- Text 43 for FnExactAhead. -/
import Derived.Test.YtmpnhclbmgjpgaaGreatAhead42
set_option linter.unusedVariables false
set_option linter.unusedSimpArgs false
namespace Go.Am
open Go.Proofs
set_option maxHeartbeats 4000000
set_option maxRecDepth 100000
attribute [-simp] BitVec.toNat_or BitVec.toNat_and BitVec.toNat_ofInt
section
def allF (F:FarF) (g:TGram) (w:List Int):TRun:=r0j F g w 601 run0
theorem o1a:wRun run0=1:=by decide
theorem z11:l0 run0.look∧lL t04 run0.slots:=⟨⟨by decide,by decide⟩,⟨by decide,fun i hi=>by
 have e:i=0:=by simp only[run0,List.length_cons,List.length_nil] at hi; omega
 subst e
 show t04 ⟨100, -1⟩
 exact⟨⟨by decide,by decide⟩,⟨by decide,by decide⟩⟩⟩⟩
def k_43:K:=dc 0x42040072fc20aeb91c6144f2814703da051810050810421420410020c0240103daa043172ac10c28ea0430000000000000000001c75684820016a8202040
def r_43:Nat×List RV:=(9,[.c 4 7 true])
theorem c_43:z01 PA 43 r_43 k_43:=by unfold z01; kernel_rfl
theorem h03 {F:FarF} (hF:s0e F) (g:TGram) (w:List Int) (hgw:z0q g<2 ^ 31) (hgl:x0d g):z06 Tryz.prog 43 [.agg (z0b g),.one (.ar false 0 1 (w.map rI))] (.agg (rRun (allF F g w))):=by
 have hn:=k0d
 have h:z06 _ _ _ (.agg (rRun (allF F g w))):=k0e hF g w run0 601 hgw hgl (by rw[o1a]; omega) z11.1 z11.2
 refine Prun c_43 (by simp[r_43]) (by simp) ?_
 (conv in k_43=>reduce); unfold r_43
 generalize allF F g w=T at *
 obtain⟨ps⟩:=g
 simp only[z0b,sRun,run0,List.map_cons,List.map_nil,rRun] at h hn
 simp[z0b]
 refine z0z hn (by simp) ?_
 simp
 refine z00 h (fun _=>l07 T) ?_
 simp[rRun]
def e12:K:=dc 0x42040072fc20aeb91c6144e29147039a451810050810421420410020c0240103daa043172ac10c28ea0430000000000000000001c75684820016a8202040
def m1q:Nat×List RV:=(9,[.c 4 7 true])
theorem c_108:z01 PA 108 m1q e12:=by unfold z01; kernel_rfl
theorem i0w {F:FarF} (hF:s0e F) (g:TGram) (w:List Int) (hgw:z0q g<2 ^ 31) (hgl:x0d g) (hwl:w.length<2 ^ 63):z06 Tryz.prog 108 [.agg (z0b g),.one (.ar false 0 1 (w.map rI))] (.agg (rRun (allF F g w))):=by
 have hn:=k05
 have h:z06 _ _ _ (.agg (rRun (allF F g w))):=k06 hF g w run0 601 hgw hgl (by rw[o1a]; omega) z11.1 z11.2 hwl
 refine Prun c_108 (by simp[m1q]) (by simp) ?_
 (conv in e12=>reduce); unfold m1q
 generalize allF F g w=T at *
 obtain⟨ps⟩:=g
 simp only[z0b,sRun,run0,List.map_cons,List.map_nil,rRun] at h hn
 simp[z0b]
 refine z0z hn (by simp) ?_
 simp
 refine z00 h (fun _=>l07 T) ?_
 simp[rRun]
end
end Go.Am
