/- Text 4 for FnExactAhead. -/
import Derived.Test.YtmpnhclbmgjpgaaGreatAhead3
set_option linter.unusedVariables false
set_option linter.unusedSimpArgs false
namespace Go.Am
open Go.Proofs
set_option maxHeartbeats 4000000
set_option maxRecDepth 100000
attribute [-simp] BitVec.toNat_or BitVec.toNat_and BitVec.toNat_ofInt
section
def s0u (xs:List Int) (x:Int):Nat:=xs.findIdx (fun y=>decide (x<y))
def v0h (xs:List Int) (x:Int):List Int:=if x∈xs then xs else xs.take (s0u xs x) ++ [x] ++ xs.drop (s0u xs x)
theorem j0z (xs:List Int) (x:Int):(v0h xs x).length≤xs.length+1:=by
 unfold v0h
 split
 ·omega
 ·simp; omega
theorem q1h (xs:List Int) (x:Int):s0u xs x≤xs.length:=List.findIdx_le_length
def p08 (xs:List Int) (x:Int) (m:Nat):Nat:=m+(xs.drop m).findIdx (fun y=>decide (x<y))
theorem z1m (xs:List Int) (x:Int):p08 xs x xs.length=xs.length:=by simp[p08]
theorem d06 (xs:List Int) (x:Int):p08 xs x 0=s0u xs x:=by simp[p08,s0u]
theorem d05 (xs:List Int) (x:Int) {m:Nat} (h:m<xs.length):p08 xs x m=if x<xs[m] then m else p08 xs x (m+1):=by
 unfold p08
 rw[List.drop_eq_getElem_cons h,List.findIdx_cons]
 by_cases c:x<xs[m]
 ·simp[c]
 ·simp[c]; omega
def e1d:K:=dc 0x413a04104014b04b0b928010a1400c10c413b0410404424503cb1100403ce00108e34c04734500c0001810011400060c90892063442070c7000185004040000dc50401050400c7005140e4104100013a041040
def l11:Nat×List RV:=(18,[.t 4])
theorem c_127:z01 PA 127 l11 e1d:=by unfold z01; kernel_rfl
theorem x0j (xs:List Int) (x:Int) (hx:xs.length<2 ^ 40):z06 Tryz.prog 127 [.one (.ar false 0 1 (xs.map rI)),aI x] (aB (decide (x∈xs))):=by
 refine Prun c_127 (by simp[l11]) (by simp) ?_
 (conv in e1d=>reduce); unfold l11
 simp
 refine z04 (fun n σ=>∃i:Nat,i≤xs.length∧n=xs.length - i∧x ∉ xs.take i∧σ=⟨[(0,.one (.ar false 0 1 (xs.map rI))),(1,aI x),(5,aI i)],[]⟩) xs.length ⟨0,by simp⟩ ?_
 rintro n σ ⟨i,hi,rfl,ha,rfl⟩
 by_cases h:i<xs.length
 ·by_cases c:xs[i]=x
  ·have:x∈xs:=by rw[← c]; exact List.getElem_mem h
   simp[h,c,this]
  ·simp[h,c]
   refine⟨xs.length - (i+1),by omega,i+1,by omega,rfl,?_,?_⟩
   ·rw[List.take_succ_eq_append_getElem h]
    intro hm
    rcases List.mem_append.1 hm with hm | hm
    ·exact ha hm
    ·exact c (List.mem_singleton.1 hm).symm
   ·rw[z08 (by omega) (by omega)]
    simp
 ·have:i=xs.length:=by omega
  subst this
  rw[List.take_length] at ha
  simp[ha]
def e1o:K:=dc 0x104ac10e8aa7008043382a00a41a01581a05000a000271c01810079819a58c02010ce9640400433e40408c70050401e206285e0080433a180101f05680501f0007800010cf181006581582e5504454600304315d05d18008170271b68f11b0406990010996170476060170001810011400060d40940394d01131800810000371850401461410041c0146481482e510444500d000010100014f04f3833800030400c410d04d30b00804338c0002c00010cf10100a08a248097a452410080000c10001010c10fc041040
def l1c:Nat×List RV:=(44,[.t 4])
theorem c_142:z01 PA 142 l1c e1o:=by unfold z01; kernel_rfl
theorem w0m (xs:List Int) (x:Int) (hx:xs.length<2 ^ 31):z06 Tryz.prog 142 [.one (.ar false 0 1 (xs.map rI)),aI x] (.one (.ar true 3 1 ((v0h xs x).map rI))):=by
 refine Prun c_142 (by simp[l1c]) (by simp) ?_
 (conv in e1o=>reduce); unfold l1c
 simp
 refine z00 (x0j xs x (by omega)) (by simp) ?_
 have hbN:xs.length≤4294967296:=by omega
 by_cases c:x∈xs
 ·simp[c,hbN,v0h]
 simp[c]
 have w0:IntKind.i64.wrap ((xs.length:Int) - 1)=xs.length - 1:=z08 (by omega) (by omega)
 refine z04 (fun n σ=>∃m:Nat,m≤xs.length∧n=m∧σ=⟨[(0,.one (.ar false 0 1 (xs.map rI))),(1,aI x),(5,aI (p08 xs x m)),(6,aI ((m:Int) - 1))],[]⟩) xs.length ⟨xs.length,by simp[z1m,w0]⟩ ?_
 rintro m σ ⟨n,hm,rfl,rfl⟩
 by_cases h:m=0
 ·subst h
  have hle:=q1h xs x
  rw[show p08 xs x 0=s0u xs x from d06 xs x]
  simp only[v0h,if_neg c]
  have hb1:s0u xs x≤4294967296:=by omega
  have hb2:s0u xs x+1≤4294967296:=by omega
  have hb3:s0u xs x+1+(xs.length - s0u xs x)≤4294967296:=by omega
  generalize s0u xs x=q at *
  simp[hle,hb1,hb2,hb3,Nat.min_eq_left hle]
  rw[List.take_take,Nat.min_self,List.take_of_length_le (by simp; omega),List.take_of_length_le (by simp; omega)]
  simp[rI]
 ·obtain⟨k,rfl⟩: ∃k,m=k+1:=⟨m - 1,by omega⟩
  have hk:k<xs.length:=by omega
  have w1:IntKind.i64.wrap ((k:Int) - 1)=k - 1:=z08 (by omega) (by omega)
  have hst:=d05 xs x hk
  by_cases d:x<xs[k]
  ·rw[if_pos d] at hst
   simp[hk,d]
   refine⟨k,by omega,k,by omega,rfl,?_⟩
   simp[w1,hst]
  ·rw[if_neg d] at hst
   simp[hk,d]
   refine⟨k,by omega,k,by omega,rfl,?_⟩
   simp[w1,hst]
end
section
def d1h:K:=dc 0x1025815830020402150150b92001020435015133008028a83934810028a83d244104e0400810c10c0000080511401b681503c00423c504638d00108d14018c0c02800082c50022fc1410c10c00000828a848b2810822881821c40400450001832420091c8344041000dc3003207183107005200e401c60c60000c10000c28a8043f010410020a2a010fc041040
def k15:Nat×List RV:=(23,[.t 2])
theorem c_179:z01 PA 179 k15 d1h:=by unfold z01; kernel_rfl
theorem w1z (xs:List TConf) (hx:xs.length<2 ^ 31) (hw: ∀x∈xs,y0f x<2 ^ 31):z06 Tryz.prog 179 [.one (.ar false 0 2 (xs.map z0k))] (.one (.ar true 74 2 (xs.map u0t))):=by
 refine Prun c_179 (by simp[k15]) (by simp) ?_
 (conv in d1h=>reduce); unfold k15
 simp
 refine z04 (fun n σ=>∃i:Nat,i≤xs.length∧n=xs.length - i∧σ=⟨[(3,.one (.vw 74 2 3 [] 0 i)),(6,.one (.ar false 0 2 (xs.map z0k))),(7,aI xs.length),(8,aI i)],[(3,⟨74,2,(xs.take i).map u0t⟩)]⟩) (xs.length) ⟨0,by simp⟩ ?_
 rintro n σ ⟨i,hi,rfl,rfl⟩
 by_cases h:i<xs.length
 ·have hwi:=hw _ (List.getElem_mem h)
  obtain⟨a,ha⟩: ∃a,xs[i]=a:=⟨_,rfl⟩
  rw[ha] at hwi
  have hT:(xs.take (i+1)).map u0t=(xs.take i).map u0t ++ [u0t a]:=by rw[List.take_succ_eq_append_getElem h]; simp[ha]
  rcases a with⟨a1,a2⟩
  simp only[y0f,v09] at hwi
  have hcl:=m0h a2 (by omega)
  have wi:IntKind.i64.wrap ((i:Int)+1)=i+1:=z08 (by omega) (by omega)
  have hb:i+1≤4294967296:=by omega
  have hi2:min i xs.length=i:=by omega
  simp[h,ha,z0k]
  first | refine z00 hcl (by simp) ?_ | refine z0c hcl (by simp) ?_ | refine z0z hcl (by simp) ?_ | refine z0e hcl rfl rfl (by simp) (by simp) ?_ | refine⟨_,by simp,hcl,?_⟩
  try simp[hb,hi2]
  refine⟨xs.length - (i+1),by omega,i+1,by omega,rfl,?_⟩
  rw[← List.map_take (i:=i+1),hT,wi]
  simp[u0t, -List.map_take,List.take_take]
  simp
 ·have:i=xs.length:=by omega
  subst this
  simp
end
section
def codeTexts:List ByteArray:=[⟨#[100,111,110,101]⟩,⟨#[109,117,99,104]⟩,⟨#[105,110,112,117,116]⟩,⟨#[103,114,97,109]⟩,⟨#[102,117,108,108]⟩,⟨#[99,97,110,99,101,108]⟩,⟨#[98,117,100,103,101,116]⟩]
def u00 (k:Int):ByteArray:=if inr k 0 6 then codeTexts.getD k.toNat ⟨#[]⟩ else⟨#[]⟩
theorem h1d {a:Int} (h:inr a 0 6=true):a=0∨a=1∨a=2∨a=3∨a=4∨a=5∨a=6:=by
 simp[inr] at h; omega
theorem wrap6:IntKind.i64.wrap 6=6:=by decide
def k_61:K:=
 .seq (
  .reg none [⟨(some 2),none,.asn (.c (.str ⟨#[]⟩))⟩]) (
 .seq (
  .reg none [⟨(some 4),none,.bls 9 1 false [(.c (.str ⟨#[100,111,110,101]⟩)),(.c (.str ⟨#[109,117,99,104]⟩)),(.c (.str ⟨#[105,110,112,117,116]⟩)),(.c (.str ⟨#[103,114,97,109]⟩)),(.c (.str ⟨#[102,117,108,108]⟩)),(.c (.str ⟨#[99,97,110,99,101,108]⟩)),(.c (.str ⟨#[98,117,100,103,101,116]⟩))]⟩,
   ⟨(some 3),none,.asn (.t 4)⟩]) (
 .seq (
  .seq (
   .reg none [⟨(some 5),none,.mv (.t 0)⟩,
    ⟨(some 6),none,.mv (.t 3)⟩,
    ⟨(some 7),none,.len (.t 6)⟩,
    ⟨(some 8),none,.bin .sub (.t 7) (.c (.int .i64 (1)))⟩,
    ⟨(some 9),none,.call 58 [(.t 5),(.c (.int .i64 (0))),(.t 8)]⟩,
    ⟨(some 10),none,.not (.t 9)⟩]) (
  .cond (.t 10) (
   .seq (
    .reg none [⟨(some 2),none,.asn (.c (.str ⟨#[]⟩))⟩]) (
   .ret)) (
   .skip))) (
 .seq (
  .reg none [⟨(some 11),none,.mv (.t 3)⟩,
   ⟨(some 12),none,.mv (.t 0)⟩,
   ⟨(some 13),none,.iad 1 (.t 11) (.t 12)⟩,
   ⟨(some 14),none,.ld 1 false (.t 13)⟩,
   ⟨(some 2),none,.asn (.t 14)⟩]) (
 .ret))))
def r_61:Nat×List RV:=(15,[.t 2])
theorem c_61:z01 PA 61 r_61 k_61:=by unfold z01; kernel_rfl
theorem v0d (a:Int):z06 Tryz.prog 61 [aI a] (aS (u00 a)):=by
 refine Prun c_61 (by simp[r_61]) (by simp) ?_
 unfold k_61 r_61
 simp
 refine z00 (z0f _ _ _) (by simp) ?_
 rw[wrap6]
 by_cases h:inr a 0 6=true
 ·rcases h1d h with rfl | rfl | rfl | rfl | rfl | rfl | rfl <;> simp[h,u00,codeTexts,r0l,b04]
 ·simp[h,u00]
def k_69:K:=
 .seq (
  .reg none [⟨(some 2),none,.asn (.c (.str ⟨#[]⟩))⟩]) (
 .seq (
  .seq (
   .reg none [⟨(some 3),none,.mv (.t 0)⟩,
    ⟨(some 4),none,.call 62 [(.t 3),(.c (.int .i64 (0))),(.c (.int .i64 (6)))]⟩,
    ⟨(some 5),none,.not (.t 4)⟩]) (
  .cond (.t 5) (
   .seq (
    .reg none [⟨(some 2),none,.asn (.c (.str ⟨#[]⟩))⟩]) (
   .ret)) (
   .skip))) (
 .seq (
  .reg none [⟨(some 6),none,.bld false [(.str ⟨#[]⟩),(.str ⟨#[]⟩),(.str ⟨#[]⟩),(.str ⟨#[]⟩),(.str ⟨#[]⟩),(.str ⟨#[]⟩),(.str ⟨#[]⟩)] [(0,1,(.c (.str ⟨#[100,111,110,101]⟩))),(1,1,(.c (.str ⟨#[109,117,99,104]⟩))),(2,1,(.c (.str ⟨#[105,110,112,117,116]⟩))),(3,1,(.c (.str ⟨#[103,114,97,109]⟩))),(4,1,(.c (.str ⟨#[102,117,108,108]⟩))),(5,1,(.c (.str ⟨#[99,97,110,99,101,108]⟩))),(6,1,(.c (.str ⟨#[98,117,100,103,101,116]⟩)))]⟩,
   ⟨(some 7),none,.mv (.t 0)⟩,
   ⟨(some 8),none,.idxa 7 1 false (.t 6) (.t 7)⟩,
   ⟨(some 2),none,.asn (.t 8)⟩]) (
 .ret)))
def r_69:Nat×List RV:=(9,[.t 2])
theorem c_69:z01 PA 69 r_69 k_69:=by unfold z01; kernel_rfl
theorem r04 (a:Int):z06 Tryz.prog 69 [aI a] (aS (u00 a)):=by
 refine Prun c_69 (by simp[r_69]) (by simp) ?_
 unfold k_69 r_69
 simp
 refine z00 (z0n _ _ _) (by simp) ?_
 by_cases h:inr a 0 6=true
 ·rcases h1d h with rfl | rfl | rfl | rfl | rfl | rfl | rfl <;> simp[h,u00,codeTexts,r0l,b04]
 ·simp[h,u00]
theorem v0n {a:Int} (h:inr a 0 6=false):u00 a=⟨#[]⟩:=by simp[u00,h]
theorem v0m {a:Int} (h:inr a 0 6=true):(u00 a).toList.isEmpty=false:=by
 rcases h1d h with rfl | rfl | rfl | rfl | rfl | rfl | rfl <;> simp[u00,h,codeTexts] <;> decide
end
section
def x04 (l:List Int) (i:Nat):Bool:=decide (i=0) || decide (l.getD (i - 1) 0<l.getD i 0)
def qT (t:TTenant):List Int:=t.queue.map TJob.ticket
def oT (t:TTenant):List Int:=t.out.map TOutcome.ticket
def x0o (j:TJob):Bool:=y08 j.input && inr j.gram 0 3 && decide (j.run.code=0)
def hdQ (t:TTenant):Bool:=inr t.quantum 1 20 && inr t.cls 0 2 && inr t.budget 0 5000 && inr t.used 0 t.budget
def hdC (t:TTenant):Bool:=inr t.wait 0 1000000 && inr t.turns 0 1000000 && inr t.due 0 1000000 && inr t.next 0 1000000 && inr (t.next - t.due) 0 6
def hasT (t:TTenant) (k:Int):Nat:=(qT t).count k+(oT t).count k
def p1T (t:TTenant) (k:Nat):Bool:=decide (hasT t (t.due+k)=1)
def p2T (t:TTenant) (i:Nat):Bool:=x04 (qT t) i && x0o (t.queue.getD i default)
def p3T (t:TTenant) (i:Nat):Bool:=x04 (oT t) i && inr (t.out.getD i default).code 0 6
def p4T (t:TTenant) (k:Nat):Bool:=decide (t.due+(k:Int)∈qT t ++ oT t)
def z0t (t:TTenant):Bool:=
 hdQ t && hdC t && !(decide (0<t.wait) && decide (t.queue.length=0)) && decide (t.queue.length≤4) && decide ((t.queue.length:Int)+t.out.length=t.next - t.due) &&
 allN (p1T t) (t.next - t.due).toNat && allN (p2T t) t.queue.length && allN (p3T t) t.out.length
def x0e (t:TTenant):Bool:=
 decide ((t.queue.length:Int)+t.out.length=t.next - t.due) && allN (x04 (qT t)) t.queue.length &&
 allN (fun i=>x04 (oT t) i && inr (t.out.getD i default).code 0 6) t.out.length &&
 allN (fun k=>decide (t.due+(k:Int)∈qT t ++ oT t)) (t.next - t.due).toNat
def y05 (t:TTenant):Bool:=
 hdQ t && hdC t && !(decide (t.queue.length=0) && decide (t.wait≠0)) && decide (t.queue.length≤4) && x0e t && t.queue.all x0o
def cntF (l:List Int) (d:Int):Nat→Nat
 | 0=>0
 | n+1=>cntF l d n+l.count (d+n)
theorem b0o (d:Int): ∀n,cntF [] d n=0
 | 0=>rfl
 | n+1=>by simp[cntF,b0o d n]
theorem g0k (x:Int) (l:List Int) (d:Int): ∀n:Nat,cntF (x :: l) d n=cntF l d n+(if d≤x∧x<d+n then 1 else 0)
 | 0=>by
   have: ¬(d≤x∧x<d+((0:Nat):Int)):=by omega
   simp only[cntF,if_neg this]
 | n+1=>by
   simp only[cntF,g0k x l d n,List.count_cons]
   by_cases h1:x=d+n
   ·have h2: ¬(d≤x∧x<d+(n:Int)):=by omega
    have h3:d≤x∧x<d+((n+1:Nat):Int):=by omega
    simp only[if_neg h2,if_pos h3]
    simp[h1]; omega
   ·have h4:(x == d+(n:Int))=false:=by simpa using h1
    rw[h4]
    by_cases h2:d≤x∧x<d+(n:Int)
    ·have h3:d≤x∧x<d+((n+1:Nat):Int):=by omega
     simp only[if_pos h2,if_pos h3]; simp; omega
    ·have h3: ¬(d≤x∧x<d+((n+1:Nat):Int)):=by omega
     simp only[if_neg h2,if_neg h3]; simp
theorem w1e (d:Int) (n:Nat): ∀l:List Int,cntF l d n≤l.length
 | []=>by rw[b0o]; exact Nat.zero_le _
 | x :: l=>by
   rw[g0k,List.length_cons]
   have:=w1e d n l
   split <;> omega
theorem w1d (l:List Int) (d:Int): ∀n:Nat,(∀k:Nat,k<n→1≤l.count (d+k))→n≤cntF l d n∧∀k:Nat,k<n→n+(l.count (d+k) - 1)≤cntF l d n
 | 0,_=>⟨Nat.zero_le _,fun k hk=>by omega⟩
 | n+1,h=>by
   obtain⟨h1,h2⟩:=w1d l d n (fun k hk=>h k (by omega))
   have h3:=h n (by omega)
   refine⟨by simp only[cntF]; omega,fun k hk=>?_⟩
   simp only[cntF]
   by_cases hk2:k=n
   ·subst hk2; omega
   ·have:=h2 k (by omega); omega
theorem w1j {l:List Int} {d:Int} {n:Nat} (hn:l.length=n):(∀k:Nat,k<n→l.count (d+k)=1)↔∀k:Nat,k<n→d+(k:Int)∈l:=by
 constructor
 ·intro h k hk
  exact List.count_pos_iff.1 (by rw[h k hk]; exact Nat.one_pos)
 ·intro h k hk
  have h1: ∀k:Nat,k<n→1≤l.count (d+k):=fun k hk=>List.count_pos_iff.2 (h k hk)
  have h2:=(w1d l d n h1).2 k hk
  have h3:=w1e d n l
  have h4:=h1 k hk
  omega
theorem s1z {α:Type} [Inhabited α] (p:α→Bool) (xs:List α):xs.all p=allN (fun i=>p (xs.getD i default)) xs.length:=by
 rw[Bool.eq_iff_iff,p06,List.all_eq_true]
 constructor
 ·intro h i hi
  have:xs.getD i default=xs[i]:=by simp[List.getD,hi]
  rw[this]; exact h _ (List.getElem_mem hi)
 ·intro h x hx
  obtain⟨i,hi,rfl⟩:=List.mem_iff_getElem.1 hx
  have:xs.getD i default=xs[i]:=by simp[List.getD,hi]
  rw[← this]; exact h i hi
theorem b0d (p q:Nat→Bool): ∀n,allN (fun i=>p i && q i) n=(allN p n && allN q n)
 | 0=>rfl
 | n+1=>by
   simp only[allN,b0d p q n]
   cases allN p n <;> cases allN q n <;> cases p n <;> cases q n <;> rfl
theorem b01 (t:TTenant):z0t t=y05 t:=by
 have e1:p1T t=fun k:Nat=>decide (hasT t (t.due+k)=1):=rfl
 have e2:p2T t=fun i=>x04 (qT t) i && x0o (t.queue.getD i default):=rfl
 have e3:p3T t=fun i=>x04 (oT t) i && inr (t.out.getD i default).code 0 6:=rfl
 unfold z0t y05 x0e
 rw[e1,e2,e3]
 by_cases hd:hdQ t=true
 case neg=>simp[Bool.eq_false_iff.2 hd]
 by_cases hc:hdC t=true
 case neg=>simp[Bool.eq_false_iff.2 hc]
 rw[hd,hc]
 have hw:(decide (0<t.wait) && decide (t.queue.length=0))=(decide (t.queue.length=0) && decide (t.wait≠0)):=by
  simp[hdC,inr] at hc
  rw[Bool.and_comm]; congr 1; rw[decide_eq_decide]; omega
 rw[hw,s1z x0o]
 simp only[b0d]
 by_cases hl:(t.queue.length:Int)+t.out.length=t.next - t.due
 case neg=>simp[hl]
 have hk:allN (fun k=>decide (hasT t (t.due+k)=1)) (t.next - t.due).toNat=allN (fun k=>decide (t.due+(k:Int)∈qT t ++ oT t)) (t.next - t.due).toNat:=by
  rw[Bool.eq_iff_iff,p06,p06]
  have:=w1j (l:=qT t ++ oT t) (d:=t.due) (n:=(t.next - t.due).toNat) (by simp[qT,oT]; omega)
  simp only[List.count_append] at this
  constructor
  ·intro h k hk
   exact decide_eq_true (this.1 (fun k hk=>of_decide_eq_true (h k hk)) k hk)
  ·intro h k hk
   exact decide_eq_true (this.2 (fun k hk=>of_decide_eq_true (h k hk)) k hk)
 rw[hk]
 simp only[hl,decide_true,Bool.true_and]
 cases allN (fun k=>decide (t.due+(k:Int)∈qT t ++ oT t)) (t.next - t.due).toNat <;> cases allN (x04 (qT t)) t.queue.length <;> cases allN (fun i=>x0o (t.queue.getD i default)) t.queue.length <;> cases allN (x04 (oT t)) t.out.length <;> cases allN (fun i=>inr (t.out.getD i default).code 0 6) t.out.length <;> simp
end
section
def k_51:K:=dc 0x104ec1041005401402e4f0043c5003043104e8104101a09a6496585021691585c10425d65411d61405410144c10424d24411d214044000a28020004500018338238d2cd10d30330000b1401010000371410041410031c0145039041040003104e8104100a08a2473042480c80401c60c600014100013a041040
def r_51:Nat×List RV:=(27,[.t 4])
theorem c_51:z01 PA 51 r_51 k_51:=by unfold z01; kernel_rfl
theorem v10 (xs:List TGram) (hx:wL z0q xs<2 ^ 40):z06 Tryz.prog 51 [.one (.ar false 0 1 (xs.map z0b)),.one (.ar false 0 1 (xs.map z0b))] (aB true):=by
 refine Prun c_51 (by simp[r_51]) (by simp) ?_
 (conv in k_51=>reduce); unfold r_51
 have hlen:=z0a z0q xs
 simp
 refine z04 (fun n σ=>∃i:Nat,i≤xs.length∧n=xs.length - i∧σ=⟨[(0,.one (.ar false 0 1 (xs.map z0b))),(1,.one (.ar false 0 1 (xs.map z0b))),(5,aI i)],[]⟩) (xs.length) ⟨0,by simp⟩ ?_
 rintro n σ ⟨i,hi,rfl,rfl⟩
 by_cases h:i<xs.length
 ·have hw:=z0x z0q xs i h
  simp[h,z0b]
  refine⟨_,by simp,r1p xs[i] (by omega),?_⟩
  simp
  refine⟨xs.length - (i+1),by omega,i+1,by omega,rfl,?_⟩
  rw[z08 (by omega) (by omega)]
  simp
 ·simp[h]
end
section
def b19:K:=dc 0x104ec1041003104e8104102a082a29241a28982dab140a270010a70c61a69400429421861810000c413a0410409029232638a00b5ac58a10410a10c51a07c10427c21461810000c413a04104078279d25d71a0b4ac571b00109b0c419a6400426421061810000c413a04104060261754c1175800425830c6554001094083185040003104e810410130934903044910010910c21903c00423c20861410000c413a04104038238d2cc10d3000423030462ca00108a081185040003104e810410090892063042070010870c018614004214200614100013a043047568202007568203040
def j1v:Nat×List RV:=(43,[.t 4])
theorem c_253:z01 PA 253 j1v b19:=by unfold z01; kernel_rfl
theorem n1j (a:TRun) (ha:wRun a<2 ^ 40):z06 Tryz.prog 253 [.agg (sRun a),.agg (sRun a)] (aB true):=by
 refine Prun c_253 (by simp[j1v]) (by simp) ?_
 (conv in b19=>reduce); unfold j1v
 simp only[wRun] at ha
 simp[sRun]
 refine z00 (v15 a.slots (by omega)) (by simp) ?_
 simp
 refine z00 (r1u a.tree (by omega)) (by simp) ?_
 simp
 refine z00 (r1o a.errs (by omega)) (by simp) ?_
 simp
end
section
def c1d:K:=dc 0x413b0410400c413a041040682699259616095ac56170470970c31965411c25420c61810000c413a041040502513253490093ac54910010910c21903c00423c20861810000c413a04104038238d2cc10d3000423030462ca00108a081185040003104e810410090892063042070010870c018614004214200614100013a04304a5e820200a5e8203040
def j10:Nat×List RV:=(27,[.t 4])
theorem c_215:z01 PA 215 j10 c1d:=by unfold z01; kernel_rfl
theorem n1i (a:TJob) (ha:wJob a<2 ^ 40):z06 Tryz.prog 215 [.agg (sJob a),.agg (sJob a)] (aB true):=by
 refine Prun c_215 (by simp[j10]) (by simp) ?_
 (conv in c1d=>reduce); unfold j10
 simp only[wJob] at ha
 simp[sJob]
 refine z00 (n0o a.input (by omega)) (by simp) ?_
 simp
 refine z00 (n1j a.run (by omega)) (by simp) ?_
 simp
end
section
def d1b:K:=dc 0x104ec1041005401402e4f0043c5003043104e8104101a09a649658502c2a1585c10c25d65431d61405410144c10c24d24431d214044000a28020004500018338238d2cd10d30330000b1401010000371410041410031c0145039041040003104e8104100a08a2473042480c80401c60c600014100013a041040
def l1z:Nat×List RV:=(27,[.t 4])
theorem c_165:z01 PA 165 l1z d1b:=by unfold z01; kernel_rfl
theorem g0w (xs:List TOutcome) (hx:wL y06 xs<2 ^ 40):z06 Tryz.prog 165 [.one (.ar false 0 3 (xs.map z0u)),.one (.ar false 0 3 (xs.map z0u))] (aB true):=by
 refine Prun c_165 (by simp[l1z]) (by simp) ?_
 (conv in d1b=>reduce); unfold l1z
 have hlen:=z0a y06 xs
 simp
 refine z04 (fun n σ=>∃i:Nat,i≤xs.length∧n=xs.length - i∧σ=⟨[(0,.one (.ar false 0 3 (xs.map z0u))),(1,.one (.ar false 0 3 (xs.map z0u))),(5,aI i)],[]⟩) (xs.length) ⟨0,by simp⟩ ?_
 rintro n σ ⟨i,hi,rfl,rfl⟩
 by_cases h:i<xs.length
 ·have hw:=z0x y06 xs i h
  simp[h,z0u]
  refine⟨_,by simp,d0v xs[i] (by omega),?_⟩
  simp
  refine⟨xs.length - (i+1),by omega,i+1,by omega,rfl,?_⟩
  rw[z08 (by omega) (by omega)]
  simp
 ·simp[h]
end
section
def k_39:K:=dc 0x411a05a040081005441442e50004405003043104079041040642640e583446010020400570575950b8a055810155010425134811d31404800070400450001833c23ce30d10e34334000c1401010000371410041410031c01450390410400031040790410402c22c0e4a3442810020400012412481811081c31c0006040141004039041040
def r_39:Nat×List RV:=(27,[.t 4])
theorem c_39:z01 PA 39 r_39 k_39:=by unfold z01; kernel_rfl
theorem v1j (xs:List TGram) (left:Int) (hl:lL x0d xs) (h2:0≤left) (h3:left<2 ^ 40):z06 Tryz.prog 39 [.one (.ar false 0 1 (xs.map z0b)),aI left] (aI (lft left (wL z0q xs))):=by
 refine Prun c_39 (by simp[r_39]) (by simp) ?_
 (conv in k_39=>reduce); unfold r_39
 have hlen:=hl.1
 have hlw:=z0a z0q xs
 have w1:IntKind.i64.wrap (left - xs.length)=left - xs.length:=z08 (by omega) (by omega)
 by_cases h1:left - (xs.length:Int)<0
 ·rw[z0j (by omega)]
  simp[w1,h1]
 simp[w1,h1]
 refine z04 (fun n σ=>∃i:Nat,i≤xs.length∧n=xs.length - i∧(wL z0q (xs.take i):Int) - i≤left - xs.length∧σ=⟨[(0,.one (.ar false 0 1 (xs.map z0b))),(1,aI (left - xs.length - ((wL z0q (xs.take i):Int) - i))),(5,aI i)],[]⟩) (xs.length) ⟨0,by simp[wL]; omega⟩ ?_
 rintro n σ ⟨i,hi,rfl,hle,rfl⟩
 have hge:=z0a z0q (xs.take i)
 rw[List.length_take,Nat.min_eq_left hi] at hge
 by_cases h:i<xs.length
 ·have hst:=t0z z0q h
  have hle2:=x0h z0q xs (i+1)
  have hlen2:=z0a z0q (xs.drop (i+1))
  have happ:=z0y z0q (xs.take (i+1)) (xs.drop (i+1))
  rw[List.take_append_drop] at happ
  rw[List.length_drop] at hlen2
  simp[h,z0b]
  refine z00 (q14 xs[i] _ (hl.2 i h) (by omega) (by omega)) (by simp) ?_
  generalize hv:left - (xs.length:Int) - ((wL z0q (xs.take i):Int) - i)=v at *
  by_cases h4:v<(z0q xs[i]:Int)
  ·simp only[z0j h4]
   rw[z0j (by omega)]
   simp
  ·have e:lft v (z0q xs[i])=v - z0q xs[i]:=z0w (by omega)
   have n1: ¬v - (z0q xs[i]:Int)<0:=by omega
   simp[e,n1]
   refine⟨xs.length - (i+1),by omega,i+1,by omega,rfl,by omega,?_⟩
   rw[z08 (by omega) (by omega)]
   simp; omega
 ·have:i=xs.length:=by omega
  subst this
  rw[List.take_length] at hle
  rw[z0w (by omega)]
  simp
  omega
end
section
def c1p:K:=dc 0x1045c15c10020400c4101e4104101609603954d1150400810000540544d20a7ac54c1012440042442186141003104079041040402400e4f3443c100204000138138d3029ab14d04030b04108b0851850400c4101e4104100a08a03924d1090400810000480481c60a5ac51c10061400421421061410040390420075eb202040
def j1b:Nat×List RV:=(24,[.t 4])
theorem c_233:z01 PA 233 j1b c1p:=by unfold z01; kernel_rfl
theorem n1q (a:TRun) (left:Int) (h:lRun a) (h2:0≤left) (h3:left<2 ^ 40):z06 Tryz.prog 233 [.agg (sRun a),aI left] (aI (lft left (wRun a))):=by
 refine Prun c_233 (by simp[j1b]) (by simp) ?_
 (conv in c1p=>reduce); unfold j1b
 simp only[lRun] at h
 simp only[wRun]
 obtain⟨hl0,hl1,hl2,_⟩:=h
 simp[sRun]
 refine z00 (v1o a.slots (left) hl0 (by omega) (by omega)) (by simp) ?_
 by_cases g0:left<(wL x0c a.slots:Int)
 case pos=>simp only[z0j g0]; simp; try rw[z0j (by omega)]
 simp only[z0w (show (wL x0c a.slots:Int)≤left by omega)]
 have n0: ¬left - (wL x0c a.slots:Int)<0:=by omega
 simp[n0]
 refine z00 (q18 a.tree (left - (wL x0c a.slots:Int)) hl1 (by omega) (by omega)) (by simp) ?_
 by_cases g1:left - (wL x0c a.slots:Int)<(x0q a.tree:Int)
 case pos=>simp only[z0j g1]; simp; try rw[z0j (by omega)]
 simp only[z0w (show (x0q a.tree:Int)≤left - (wL x0c a.slots:Int) by omega)]
 have n1: ¬left - (wL x0c a.slots:Int) - (x0q a.tree:Int)<0:=by omega
 simp[n1]
 refine z00 (q13 a.errs (left - (wL x0c a.slots:Int) - (x0q a.tree:Int)) hl2 (by omega) (by omega)) (by simp) ?_
 by_cases g2:left - (wL x0c a.slots:Int) - (x0q a.tree:Int)<(wL wErr a.errs:Int)
 case pos=>simp only[z0j g2]; simp; try rw[z0j (by omega)]
 simp only[z0w (show (wL wErr a.errs:Int)≤left - (wL x0c a.slots:Int) - (x0q a.tree:Int) by omega)]
 have n2: ¬left - (wL x0c a.slots:Int) - (x0q a.tree:Int) - (wL wErr a.errs:Int)<0:=by omega
 simp[n2]
 try rw[z0w (by omega)]
 try omega
end
section
def e1v:K:=dc 0x411a05a040081005441442e50004405003043104079041040642640e5834460100204005705759509ea855810155010c25134831d31404800070400450001833c23ce30d10e34334000c1401010000371410041410031c01450390410400031040790410402c22c0e4a3442810020400012412481811081c31c0006040141004039041040
def l1j:Nat×List RV:=(27,[.t 4])
theorem c_149:z01 PA 149 l1j e1v:=by unfold z01; kernel_rfl
theorem f07 (xs:List TOutcome) (left:Int) (hl:lL r0t xs) (h2:0≤left) (h3:left<2 ^ 40):z06 Tryz.prog 149 [.one (.ar false 0 3 (xs.map z0u)),aI left] (aI (lft left (wL y06 xs))):=by
 refine Prun c_149 (by simp[l1j]) (by simp) ?_
 (conv in e1v=>reduce); unfold l1j
 have hlen:=hl.1
 have hlw:=z0a y06 xs
 have w1:IntKind.i64.wrap (left - xs.length)=left - xs.length:=z08 (by omega) (by omega)
 by_cases h1:left - (xs.length:Int)<0
 ·rw[z0j (by omega)]
  simp[w1,h1]
 simp[w1,h1]
 refine z04 (fun n σ=>∃i:Nat,i≤xs.length∧n=xs.length - i∧(wL y06 (xs.take i):Int) - i≤left - xs.length∧σ=⟨[(0,.one (.ar false 0 3 (xs.map z0u))),(1,aI (left - xs.length - ((wL y06 (xs.take i):Int) - i))),(5,aI i)],[]⟩) (xs.length) ⟨0,by simp[wL]; omega⟩ ?_
 rintro n σ ⟨i,hi,rfl,hle,rfl⟩
 have hge:=z0a y06 (xs.take i)
 rw[List.length_take,Nat.min_eq_left hi] at hge
 by_cases h:i<xs.length
 ·have hst:=t0z y06 h
  have hle2:=x0h y06 xs (i+1)
  have hlen2:=z0a y06 (xs.drop (i+1))
  have happ:=z0y y06 (xs.take (i+1)) (xs.drop (i+1))
  rw[List.take_append_drop] at happ
  rw[List.length_drop] at hlen2
  simp[h,z0u]
  refine z00 (c02 xs[i] _ (hl.2 i h) (by omega) (by omega)) (by simp) ?_
  generalize hv:left - (xs.length:Int) - ((wL y06 (xs.take i):Int) - i)=v at *
  by_cases h4:v<(y06 xs[i]:Int)
  ·simp only[z0j h4]
   rw[z0j (by omega)]
   simp
  ·have e:lft v (y06 xs[i])=v - y06 xs[i]:=z0w (by omega)
   have n1: ¬v - (y06 xs[i]:Int)<0:=by omega
   simp[e,n1]
   refine⟨xs.length - (i+1),by omega,i+1,by omega,rfl,by omega,?_⟩
   rw[z08 (by omega) (by omega)]
   simp; omega
 ·have:i=xs.length:=by omega
  subst this
  rw[List.take_length] at hle
  rw[z0w (by omega)]
  simp
  omega
end
section
def k_46:K:=dc 0x40960560c0081004341342e4c00430400305454004bf153ce04751307ea054d20410924500474440100003c400e0c02410450001832c22ca20d10a2432400081001010000371030041030031c01440390410400031c11c6181a2804305805aa251850c500010100205aa010fc041040
def r_46:Nat×List RV:=(23,[.t 2])
theorem c_46:z01 PA 46 r_46 k_46:=by unfold z01; kernel_rfl
theorem v1q (xs:List TGram) (hx:wL z0q xs<2 ^ 31):z06 Tryz.prog 46 [.one (.ar false 0 1 (xs.map z0b))] (.one (.ar true 66 1 (xs.map q0u))):=by
 refine Prun c_46 (by simp[r_46]) (by simp) ?_
 (conv in k_46=>reduce); unfold r_46
 have hlen:=z0a z0q xs
 have hc:((xs.length:Int)≤4294967296):=by omega
 simp[hc]
 refine z04 (fun n σ=>∃i:Nat,i≤xs.length∧n=xs.length - i∧σ=⟨[(0,.one (.ar false 0 1 (xs.map z0b))),(3,.one (.vw 66 1 3 [] 0 xs.length)),(4,aI i)],[(3,⟨66,1,part q0u x1d xs i⟩)]⟩) (xs.length) ⟨0,by simp[x0t,x1d]⟩ ?_
 rintro n σ ⟨i,hi,rfl,rfl⟩
 by_cases h:i<xs.length
 ·have hw:=z0x z0q xs i h
  have:=w0p (r:=q0u) (z:=x1d) h
  simp[h,z0b]
  refine z00 (q1b xs[i] (by omega)) (by simp) ?_
  simp[h,w0o h,q0u,x1d]
  refine⟨xs.length - (i+1),by omega,i+1,by omega,rfl,?_⟩
  rw[z08 (by omega) (by omega)]
  simp only[q0u,x1d] at this
  simp[q0u,x1d,this]
 ·have:i=xs.length:=by omega
  subst this
  simp[w0n]
end
section
def c1y:K:=dc 0x47020072fc70304708204069b0012fc6c3186699070ac56580010980461850405970012fc5c314659506fac55540410940451850404930012fc4c310649106eac545000109004418504038f0012fc3c30c638d00108d0431840402cc0012fc3030862ca00108a0421840402090012fc2430462070010870411840401460012fc1830061440010840401840400c3daa043172ac10c28ea0430000000000000000001c7568481040083daa043172ac10c28ea0430000000000000000001c75684810075eb202040
def j1k:Nat×List RV:=(29,[.c 2 7 true])
theorem c_242:z01 PA 242 j1k c1y:=by unfold z01; kernel_rfl
theorem n1t (a:TRun) (ha:wRun a<2 ^ 31):z06 Tryz.prog 242 [.agg (sRun a)] (.agg (rRun a)):=by
 refine Prun c_242 (by simp[j1k]) (by simp) ?_
 (conv in c1y=>reduce); unfold j1k
 simp only[wRun] at ha
 simp[sRun]
 refine z00 (v1v a.slots (by omega)) (by simp) ?_
 simp
 refine z00 (q1g a.tree (by omega)) (by simp[s0w]) ?_
 simp[s0w]
 refine z00 (q1a a.errs (by omega)) (by simp) ?_
 simp[rRun]
end
end Go.Am
