/- Text 13 for FnExactAhead. -/
import Derived.Test.YtmpnhclbmgjpgaaGreatAhead12
set_option linter.unusedVariables false
set_option linter.unusedSimpArgs false
namespace Go.Am
open Go.Proofs
set_option maxHeartbeats 4000000
set_option maxRecDepth 100000
attribute [-simp] BitVec.toNat_or BitVec.toNat_and BitVec.toNat_ofInt
section
attribute [-simp] z03 z05 z02
theorem w0l {g:TGram} (h:y02 g=true):i03 g.parts.length g.parts:=by
 intro al hal row hrow x hx h1
 simp only[y02,Bool.and_eq_true] at h
 have h2:=List.all_eq_true.1 h.2 al hal
 simp only[v0b,Bool.and_eq_true] at h2
 have h3:=List.all_eq_true.1 h2.2 row hrow
 simp only[p02,Bool.and_eq_true] at h3
 have h4:=List.all_eq_true.1 h3.2 x hx
 simp only[y0o,Bool.or_eq_true,z0l] at h4
 unfold prt; omega
theorem x0k {g:TGram} (h:y02 g=true):0<g.parts.length∧g.parts.length≤20:=by
 simp only[y02,Bool.and_eq_true] at h
 have:=z0l.1 h.1
 omega
def e1m:K:=dc 0x102101103057a850c1058aa40c100200203c0410015c2040
def l1a:Nat×List RV:=(5,[.t 2])
theorem c_139:z01 PB 139 l1a e1m:=by unfold z01; kernel_rfl
theorem g0t (g:TGram) (hg:y02 g=true) (hw:z0q g<2 ^ 31):z06 Tryz.prog 139 [.agg (z0b g)] (aU (y00 g.parts)):=by
 refine g06 c_139 (by simp[l1a]) (by simp) ?_
 (conv in e1m=>reduce); unfold l1a
 obtain⟨ps⟩:=g
 have hl:=x0k hg
 have:=m0j 192 [.ps [.ar false 0 1 (ps.map sISS)]] (z0h (setP y0l) 0 ps) ps.length hl.2 (by kernel_rfl) (c0w ps)
  (y0e fun k al hk _=>x01 _ hk al) (fun f hf=>by simpa using z1y ps f hl.2 hf hw)
 simp[z0b]
 refine z00 this (by simp) ?_
 simp[y00]
def d1e:K:=dc 0x102101103057a850c1077aa40c100200203c0410015c2040
def k12:Nat×List RV:=(5,[.t 2])
theorem c_176:z01 PB 176 k12 d1e:=by unfold z01; kernel_rfl
theorem o0c (g:TGram) (hg:y02 g=true) (hw:z0q g<2 ^ 31) (hlg:x0d g):z06 Tryz.prog 176 [.agg (z0b g)] (aU (k0p g.parts)):=by
 refine g06 c_176 (by simp[k12]) (by simp) ?_
 (conv in d1e=>reduce); unfold k12
 obtain⟨ps⟩:=g
 have hl:=x0k hg
 have:=m0j 223 [.ps [.ar false 0 1 (ps.map sISS)]] (z0h (setP w04) 0 ps) ps.length hl.2 (by kernel_rfl) (c0w ps)
  (y0e fun k al hk _=>x01 _ hk al) (fun f hf=>by simpa using i0z ps f hl.2 hf hw hlg)
 simp[z0b]
 refine z00 this (by simp) ?_
 simp[k0p]
theorem q1z {ps:List (List (List Int))} (h0:0<ps.length) (hs:i03 ps.length ps): ∀k,iter (fun f=>z0h rchP 0 ps (f ||| 1)) (k+1) 0=iter (z0h rchP 0 ps) (k+1) 1:=by
 have hg:s0t (z0h rchP 0 ps) ps.length:=y0e fun k al hk hm=>r0v (hs al hm)
 have h1:1<2 ^ ps.length:=Nat.one_lt_two_pow (by omega)
 have hb: ∀k,sub 1 (iter (z0h rchP 0 ps) k 1):=fun k=>by
  induction k with
  | zero=>exact x02 _
  | succ k ih=>exact w06 ih (hg _ (y0u hg h1 k)).2
 intro k
 induction k with
 | zero=>simp[iter]
 | succ k ih=>
   show z0h rchP 0 ps (iter (fun f=>z0h rchP 0 ps (f ||| 1)) (k+1) 0 ||| 1)=z0h rchP 0 ps (iter (z0h rchP 0 ps) (k+1) 1)
   rw[ih]
   congr 1
   apply Nat.eq_of_testBit_eq
   intro i
   rw[Nat.testBit_or]
   cases hi:(1:Nat).testBit i with
   | false=>rw[Bool.or_false]
   | true=>rw[hb (k+1) i hi]; rfl
def d1f:K:=dc 0x102101103057a850c1079aa40c100200203c0410015c2040
def k13:Nat×List RV:=(5,[.t 2])
theorem c_177:z01 PB 177 k13 d1f:=by unfold z01; kernel_rfl
theorem n0d (g:TGram) (hg:y02 g=true) (hw:z0q g<2 ^ 31):z06 Tryz.prog 177 [.agg (z0b g)] (aU (rchs g.parts)):=by
 refine g06 c_177 (by simp[k13]) (by simp) ?_
 (conv in d1f=>reduce); unfold k13
 have hs:=w0l hg
 obtain⟨ps⟩:=g
 have hl:=x0k hg
 have hgr:s0t (z0h rchP 0 ps) ps.length:=y0e fun k al hk hm=>r0v (hs al hm)
 have:=m0j 225 [.ps [.ar false 0 1 (ps.map sISS)]] (fun f=>z0h rchP 0 ps (f ||| 1)) ps.length hl.2 (by kernel_rfl) (c0w ps)
  (fun f hf=>⟨(hgr _ (q08 (x:=0) hf hl.1)).1,w06 (n09 f 1) (hgr _ (q08 (x:=0) hf hl.1)).2⟩) (fun f hf=>by simpa using f02 ps f hl.1 hl.2 hf hw hs)
 rw[q1z hl.1 hs] at this
 simp[z0b]
 refine z00 this (by simp) ?_
 simp[rchs]
end
end Go.Am
