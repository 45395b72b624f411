/- Text 29 for FnExactAhead. -/
import Derived.Test.YtmpnhclbmgjpgaaGreatAhead28
set_option linter.unusedVariables false
set_option linter.unusedSimpArgs false
namespace Go.Am
open Go.Proofs
set_option maxHeartbeats 4000000
set_option maxRecDepth 100000
attribute [-simp] BitVec.toNat_or BitVec.toNat_and BitVec.toNat_ofInt
section
attribute [-simp] z03 z05 z02
def l0r (n:Nat) (rest:List Int) (al:List (List Int)):Bool:=al.all fun al=>rowK n (al ++ rest)
def r0g (g:TGram) (k:Int) (rest:List Int):Option (List (List Int)):=if inr k 0 (g.parts.length - 1)=true then if l0r g.parts.length rest (g.parts.getD k.toNat [])=true then some ((g.parts.getD k.toNat []).map (·++ rest)) else none else none
def c0o:Option (List (List Int))→A
 | none=> .tup [(false,[.ar true 54 1 []]),(false,[.bool false])]
 | some rs=> .tup [(false,[.ar true 54 1 (rs.map rIS)]),(false,[.bool true])]
def RowsJ (ps:List (List (List Int))) (rest:List Int) (al:List (List Int)) (n:Nat) (σ:St):Prop:=∃(i:Nat) (T:List (List Int)),i≤al.length∧n=al.length - i∧l0r ps.length rest (al.take i)=true∧T=(al.take i).map (·++ rest)∧σ=⟨[(2,.one (.ar false 0 1 (rest.map rI))),(3,.one (.pt 1 3 [] 0 0)),(8,.one (.vw 54 1 8 [] 0 T.length)),(20,.one (.ar false 0 1 (al.map sIS))),(21,aI al.length),(22,aI i)],[(3,⟨66,1,[[.ar false 0 1 (ps.map sISS)]]⟩),(8,⟨54,1,T.map rIS⟩)]⟩
theorem j0y {n:Nat} {rest:List Int} {al:List (List Int)} {i:Nat} (h:i<al.length) (ht:l0r n rest (al.take i)=true):(rowK n (al[i] ++ rest)=true→l0r n rest (al.take (i+1))=true)∧(rowK n (al[i] ++ rest)=false→l0r n rest al=false):=by
 constructor
 ·intro c
  unfold l0r at *
  rw[List.take_succ_eq_append_getElem h,List.all_append,ht]
  simp[c]
 ·intro c
  rw[Bool.eq_false_iff]
  intro h2
  have:=List.all_eq_true.1 h2 _ (List.getElem_mem h)
  rw[c] at this
  cases this
def e1p:K:=dc 0x107ec11a70672000c1016980982e5600408122506592201804ea0e92304004ea0f8cb0222001410c41fa04604ea010fc0420408428602607de093a457cb01e0c10421010002dd05d70186915c6da08004ea0f6c201a28014100a6416580010985940470c10011400060d70805d558d1010400372030845955080c2187005580e405540d44c00424d24411d20404500010900c018704000804ea010fc0410400c41fa04604ea010fc0420403c23ce24e34c0a0a4534100c0c10421010001fa04604ea010fc0430016a8203040
def l1d:Nat×List RV:=(40,[.t 6,.t 7])
theorem c_143:z01 PA 143 l1d e1p:=by unfold z01; kernel_rfl
theorem q10 (g:TGram) (k:Int) (rest:List Int) (hg:y02 g=true) (hw:z0q g<2 ^ 31) (hr:rest.length<2 ^ 29) (hr2:lL l0 rest):z06 Tryz.prog 143 [.agg (z0b g),aI k,.one (.ar false 0 1 (rest.map rI))] (c0o (r0g g k rest)):=by
 refine Prun c_143 (by simp[l1d]) (by simp) ?_
 (conv in e1p=>reduce); unfold l1d
 have hpt:=b0x g k hw
 have hrw:=fun row h=>v18 g row hw h
 have hgl:=n0n hg
 have hga:=@u06 g hg
 have hgr:=@w09 g hg
 obtain⟨ps⟩:=g
 simp only[z0b] at hpt hrw
 simp[z0b]
 refine z00 hpt (by simp) ?_
 cases c1:inr k 0 ((ps.length:Int) - 1) with
 | false=>simp[r0g,c1,c0o]
 | true=>
 have hF: ∀al,ps.getD k.toNat []=al→r0g ⟨ps⟩ k rest=if l0r ps.length rest al=true then some (al.map (·++ rest)) else none:=fun al h=>by
  simp only[r0g,c1,if_true,h]
 simp
 rw[z0l] at c1
 replace hgl:1≤ps.length∧ps.length≤20:=hgl
 have hkn:k.toNat<ps.length:=by omega
 have hga:=hga hkn
 have hgr:=@hgr _ hkn
 have hk0:(0:Int)≤k:=c1.1
 have hgd:ps.getD k.toNat []=ps[k.toNat]:=by rw[List.getD_eq_getElem?_getD,List.getElem?_eq_getElem hkn,Option.getD_some]
 have hF:=hF _ hgd
 rw[hF]
 simp only at hga hgr
 generalize hal:ps[k.toNat]=al at *
 simp[hk0,hkn,hal,sISS]
 generalize hRR:c0o (if l0r ps.length rest al=true then some (al.map (·++ rest)) else none)=RR
 refine z04 (RowsJ ps rest al) (al.length) ⟨0,[],by omega,rfl,rfl,rfl,by simp⟩ ?_
 rintro n σ ⟨i,T,hi,rfl,hall,hT,rfl⟩
 by_cases h:i<al.length
 case neg=>
  have hi':i=al.length:=by omega
  subst hi'
  rw[List.take_length] at hall hT
  rw[if_pos hall,← hT] at hRR
  simp[c0o] at hRR
  simp
  exact hRR
 have hlr:=hgr (List.getElem_mem h)
 have hcc:=i0u al[i] rest (by omega) (by omega)
 have hrk:=hrw (al[i] ++ rest) (by
  refine⟨by rw[List.length_append]; omega,fun j hj=>?_⟩
  rw[List.getElem_append]
  split
  ·rename_i hj2
   have:=List.all_eq_true.1 hlr.2 _ (List.getElem_mem hj2)
   simp only[y0o,Bool.or_eq_true,z0l] at this
   unfold l0
   omega
  ·exact hr2.2 _ _)
 have hnx:=j0y h hall
 have wi:IntKind.i64.wrap ((i:Int)+1)=i+1:=z08 (by omega) (by omega)
 have hTl:T.length=i:=by rw[hT,List.length_map,List.length_take,Nat.min_eq_left (by omega)]
 have hb:T.length+1≤4294967296:=by omega
 have hT2:(al.take (i+1)).map (·++ rest)=T ++ [al[i] ++ rest]:=by rw[List.take_succ_eq_append_getElem h,List.map_append,hT]; rfl
 have hln:(al[i] ++ rest).length=al[i].length+rest.length:=List.length_append
 generalize hr0:al[i]=row at *
 generalize hrow:row ++ rest=rw2 at *
 simp[h,hr0,sIS]
 refine z00 hcc (by simp) ?_
 have hsr:=t0x rw2
 have hlt:((rw2.map rI).take rw2.length)=rw2.map rI:=by rw[List.take_of_length_le (by simp)]
 simp[hlt,hsr]
 first | refine z00 hrk (by simp) ?_ | refine z0c hrk (by simp) ?_ | refine z0z hrk (by simp) ?_ | refine z0e hrk rfl rfl (by simp) (by simp) ?_ | refine⟨_,by simp,hrk,?_⟩
 try simp
 cases c2:rowK ps.length rw2 with
 | false=>
   rw[hnx.2 c2] at hRR
   simp[c0o] at hRR
   simp
   exact hRR
 | true=>
   simp[hb,hlt,wi]
   refine⟨al.length - (i+1),by omega,i+1,T ++ [rw2],by omega,rfl,hnx.1 c2,hT2.symm,?_⟩
   simp[rIS]
end
end Go.Am
