/- Text 10 for FnExactAhead. -/
import Derived.Test.YtmpnhclbmgjpgaaGreatAhead9
set_option linter.unusedVariables false
set_option linter.unusedSimpArgs false
namespace Go.Am
open Go.Proofs
set_option maxHeartbeats 4000000
set_option maxRecDepth 100000
attribute [-simp] BitVec.toNat_or BitVec.toNat_and BitVec.toNat_ofInt
section
attribute [-simp] z03 z05 z02
abbrev aU (f:Nat):A:= .one (.int .u32 f)
abbrev cU (f:Nat):C:= .int .u32 f
theorem p1p {n:Nat} (h:n<2 ^ 32):IntKind.u32.wrap (n:Int)=n:=by
 have e:IntKind.u32.wrap (n:Int)=(n:Int) % 4294967296:=by simp[IntKind.wrap,IntKind.bits,IntKind.signed]
 rw[e]; omega
theorem orU {a b:Nat} (ha:a<2 ^ 32) (hb:b<2 ^ 32):IntKind.u32.wrap ((BitVec.ofNat IntKind.u32.bits a ||| BitVec.ofNat IntKind.u32.bits b).toNat:Int)=((a ||| b:Nat):Int):=by
 show IntKind.u32.wrap ((BitVec.ofNat 32 a ||| BitVec.ofNat 32 b).toNat:Int)=_
 rw[BitVec.toNat_or,BitVec.toNat_ofNat,BitVec.toNat_ofNat,Nat.mod_eq_of_lt ha,Nat.mod_eq_of_lt hb,p1p (Nat.or_lt_two_pow ha hb)]
theorem and1 {a:Nat} (ha:a<2 ^ 32):IntKind.u32.wrap ((BitVec.ofNat IntKind.u32.bits a &&& 1#IntKind.u32.bits).toNat:Int)=((a &&& 1:Nat):Int):=by
 show IntKind.u32.wrap ((BitVec.ofNat 32 a &&& BitVec.ofNat 32 1).toNat:Int)=_
 rw[BitVec.toNat_and,BitVec.toNat_ofNat,BitVec.toNat_ofNat,Nat.mod_eq_of_lt ha,Nat.mod_eq_of_lt (by omega:1<2 ^ 32),p1p (Nat.lt_of_le_of_lt Nat.and_le_left ha)]
theorem shrU {f:Nat} {x:Int} (hf:f<2 ^ 32) (hx:0≤x):(f:Int).fdiv (2 ^ min x.toNat IntKind.u32.bits)=((f >>> x.toNat:Nat):Int):=by
 show (f:Int).fdiv (2 ^ min x.toNat 32)=_
 rw[Nat.shiftRight_eq_div_pow,Int.fdiv_eq_ediv_of_nonneg _ (Int.le_of_lt (Int.pow_pos (by omega)))]
 by_cases h:x.toNat≤32
 ·rw[Nat.min_eq_left h]; simp
 ·rw[Nat.min_eq_right (by omega),Nat.div_eq_of_lt (Nat.lt_of_lt_of_le hf (Nat.pow_le_pow_right (by omega) (by omega)))]
  omega
theorem shlU {x:Int} (hx:0≤x) (hx2:x<32):IntKind.u32.wrap (1*2 ^ min x.toNat IntKind.u32.bits)=((2 ^ x.toNat:Nat):Int):=by
 show IntKind.u32.wrap (1*2 ^ min x.toNat 32)=_
 rw[Nat.min_eq_left (by omega),Int.one_mul]
 have:((2:Int) ^ x.toNat)=((2 ^ x.toNat:Nat):Int):=by simp
 rw[this,p1p (Nat.pow_lt_pow_right (by omega) (by omega))]
theorem v0z {n:Int} (h:0≤n) (h2:n<2 ^ 64):IntKind.u64.wrap n=n:=by
 have e:IntKind.u64.wrap n=n % 18446744073709551616:=by simp[IntKind.wrap,IntKind.bits,IntKind.signed]
 rw[e]; omega
theorem o1w {f x:Nat}:f >>> x &&& 1=if f.testBit x=true then 1 else 0:=by
 rw[Nat.and_one_is_mod]
 have:f.testBit x=decide (f >>> x % 2=1):=by simp[Nat.testBit,Nat.and_comm,Nat.and_one_is_mod]
 rw[this]
 by_cases h:f >>> x % 2=1
 ·simp[h]
 ·simp[h]; omega
def e1n:K:=dc 0x104281282080f092c4242080f0814420714910718344604014000704013a041040
def l1b:Nat×List RV:=(11,[.t 4])
theorem c_140:z01 PA 140 l1b e1n:=by unfold z01; kernel_rfl
theorem g0x (f:Nat) (x:Int) (hf:f<2 ^ 32) (hx:0≤x) (hx2:x<2 ^ 63):z06 Tryz.prog 140 [aU f,aI x] (aB (f.testBit x.toNat)):=by
 refine Prun c_140 (by simp[l1b]) (by simp) ?_
 (conv in e1n=>reduce); unfold l1b
 have w1:IntKind.u64.wrap x=x:=v0z hx (by omega)
 have nx: ¬x<0:=by omega
 have hsh:f >>> x.toNat<2 ^ 32:=Nat.lt_of_le_of_lt (by rw[Nat.shiftRight_eq_div_pow]; exact Nat.div_le_self _ _) hf
 have hy:=shrU hf hx
 have hb:f >>> x.toNat &&& 1=if f.testBit x.toNat=true then 1 else 0:=o1w
 generalize f >>> x.toNat=y at *
 simp[w1,x0r,nx,hy]
 rw[and1 hsh,hb]
 cases f.testBit x.toNat <;> simp
theorem u1m {f:Nat} (hf:f<2 ^ 20) (x:Int):(decide (100≤x) && f.testBit (prt x))=(!decide (x<100) && !decide (120≤x) && f.testBit (x - 100).toNat):=by
 unfold prt
 by_cases h:x<100
 ·have: ¬100≤x:=by omega
  simp[h,this]
 ·have h1:100≤x:=by omega
  by_cases h2:120≤x
  ·have:f.testBit (x - 100).toNat=false:=Nat.testBit_lt_two_pow (Nat.lt_of_lt_of_le hf (Nat.pow_le_pow_right (by omega) (by omega)))
   simp[h,h1,h2,this]
  ·simp[h,h1,h2]
def d1q:K:=dc 0x104ec1041009680682e490040810c413a041040642658ed32972584fe5940a4a455d3fa0ab95411164fe180553f810144fe4d201247b3ca22be5040444ff860103fe3ce00e82ae4d34434600d04018c04c2c00422c91c11c304004500018328200a209344041000dc10032481c1107005240e402070c70000c100013a041040
def k1e:Nat×List RV:=(27,[.t 4])
theorem c_193:z01 PA 193 k1e d1q:=by unfold z01; kernel_rfl
theorem g0u (row:List Int) (f:Nat) (hf:f<2 ^ 20) (hr:row.length<2 ^ 63):z06 Tryz.prog 193 [.one (.ar false 0 1 (row.map rI)),aU f] (aB (y0l f row)):=by
 refine Prun c_193 (by simp[k1e]) (by simp) ?_
 (conv in d1q=>reduce); unfold k1e
 simp
 refine z04 (fun n σ=>∃i:Nat,i≤row.length∧n=row.length - i∧y0l f row=y0l f (row.drop i)∧σ=⟨[(1,aU f),(7,.one (.ar false 0 1 (row.map rI))),(8,aI row.length),(9,aI i)],[]⟩) (row.length) ⟨0,by simp⟩ ?_
 rintro n σ ⟨i,hi,rfl,ht,rfl⟩
 by_cases h:i<row.length
 case neg=>
  unfold y0l at ht
  rw[x0w h] at ht
  simp[h,y0l,ht]
 have ht2:=ht
 unfold y0l at ht2
 rw[x05 h,u1m hf] at ht2
 have wi:IntKind.i64.wrap ((i:Int)+1)=i+1:=z08 (by omega) (by omega)
 generalize hx:row[i]=x at *
 simp[h,hx]
 by_cases c1:x<100
 ·simp[c1] at ht2
  simp[c1,y0l,ht2]
 by_cases c2:120≤x
 ·simp[c1,c2] at ht2
  simp[c1,c2,y0l,ht2]
 have wx:IntKind.i64.wrap (x - 100)=x - 100:=z08 (by omega) (by omega)
 simp[c1,c2,wx]
 refine z00 (g0x f (x - 100) (by omega) (by omega) (by omega)) (by simp) ?_
 cases c3:f.testBit (x - 100).toNat with
 | false=>simp[c1,c2,c3] at ht2; simp[c1,c2,y0l,ht2]
 | true=>
   simp[c1,c2,c3] at ht2
   simp[c1,c2]
   exact⟨row.length - (i+1),by omega,i+1,by omega,rfl,by simpa [y0l] using ht2,by rw[wi]; simp⟩
def c1h:K:=dc 0x104ec1041009580582e490040810c413a04104054257a50f2932543fd4900a4a454cff60ab94411123fd18044ff410103fd3ce00e82ae4d40434600904018c04c2c00422c91c11c304004500018328200a209344041000dc10032481c1107005240e402070c70000c100013a041040
def j13:Nat×List RV:=(23,[.t 4])
theorem c_224:z01 PA 224 j13 c1h:=by unfold z01; kernel_rfl
theorem k09 (row:List Int) (f:Nat) (hf:f<2 ^ 20) (hr:lL l0 row):z06 Tryz.prog 224 [.one (.ar false 0 1 (row.map rI)),aU f] (aB (w04 f row)):=by
 refine Prun c_224 (by simp[j13]) (by simp) ?_
 (conv in c1h=>reduce); unfold j13
 have hr1:=hr.1
 simp
 refine z04 (fun n σ=>∃i:Nat,i≤row.length∧n=row.length - i∧w04 f row=w04 f (row.drop i)∧σ=⟨[(1,aU f),(7,.one (.ar false 0 1 (row.map rI))),(8,aI row.length),(9,aI i)],[]⟩) (row.length) ⟨0,by simp⟩ ?_
 rintro n σ ⟨i,hi,rfl,ht,rfl⟩
 by_cases h:i<row.length
 case neg=>
  unfold w04 at ht
  rw[x0w h] at ht
  simp[h,w04,ht]
 have ht2:=ht
 have hri:=hr.2 i h
 unfold w04 at ht2
 rw[x05 h] at ht2
 have wi:IntKind.i64.wrap ((i:Int)+1)=i+1:=z08 (by omega) (by omega)
 generalize hx:row[i]=x at *
 simp only[l0] at hri
 simp[h,hx]
 by_cases c1:100≤x
 case neg=>
  have c1':x<100:=by omega
  simp[c1'] at ht2
  simp[c1]
  exact⟨row.length - (i+1),by omega,i+1,by omega,rfl,by simpa [w04] using ht2,by rw[wi]; simp⟩
 have c1': ¬x<100:=by omega
 have wx:IntKind.i64.wrap (x - 100)=x - 100:=z08 (by omega) (by omega)
 simp[c1,wx]
 refine z00 (g0x f (x - 100) (by omega) (by omega) (by omega)) (by simp) ?_
 cases c3:f.testBit (x - 100).toNat with
 | false=>simp[c1',prt,c3] at ht2; simp[w04,prt,ht2]
 | true=>
   simp[c1',prt,c3] at ht2
   simp
   exact⟨row.length - (i+1),by omega,i+1,by omega,rfl,by simpa [w04,prt] using ht2,by rw[wi]; simp⟩
end
section
attribute [-simp] z03 z05 z02
def k_52:K:=dc 0x104ec1041005401402e4f0043c5003043104e8104101a09a6496585021a91585c10825d65421d61405410144c10824d24421d214044000a28020004500018338238d2cd10d30330000b1401010000371410041410031c0145039041040003104e8104100a08a2473042480c80401c60c600014100013a041040
def r_52:Nat×List RV:=(27,[.t 4])
theorem c_52:z01 PA 52 r_52 k_52:=by unfold z01; kernel_rfl
theorem y10 (xs:List TStore) (hx:wL y0k xs<2 ^ 40):z06 Tryz.prog 52 [.one (.ar false 0 2 (xs.map y0h)),.one (.ar false 0 2 (xs.map y0h))] (aB true):=by
 refine Prun c_52 (by simp[r_52]) (by simp) ?_
 (conv in k_52=>reduce); unfold r_52
 have hlen:=z0a y0k xs
 simp
 refine z04 (fun n σ=>∃i:Nat,i≤xs.length∧n=xs.length - i∧σ=⟨[(0,.one (.ar false 0 2 (xs.map y0h))),(1,.one (.ar false 0 2 (xs.map y0h))),(5,aI i)],[]⟩) (xs.length) ⟨0,by simp⟩ ?_
 rintro n σ ⟨i,hi,rfl,rfl⟩
 by_cases h:i<xs.length
 ·have hw:=z0x y0k xs i h
  simp[h,y0h]
  refine⟨_,by simp,v16 xs[i] (by omega),?_⟩
  simp
  refine⟨xs.length - (i+1),by omega,i+1,by omega,rfl,?_⟩
  rw[z08 (by omega) (by omega)]
  simp
 ·simp[h]
end
section
attribute [-simp] z03 z05 z02
def k_13:K:=dc 0x413b0410400c413a04104080281f25f79c08da0579d00109d0c419c6c00426c21061810000c413a04104068269925961608ca056170010970c31965400425420c61810000c413a04104050251325349008ba054910010910c21903c00423c20861810000c413a04104038238d2cc10d3000423030462ca00108a081185040003104e810410090892063042070010870c018614004214200614100013a043045848080161203040
def r_13:Nat×List RV:=(33,[.t 4])
theorem c_13:z01 PA 13 r_13 k_13:=by unfold z01; kernel_rfl
theorem v11 (a:THouse) (ha:v07 a<2 ^ 40):z06 Tryz.prog 13 [.agg (z0o a),.agg (z0o a)] (aB true):=by
 refine Prun c_13 (by simp[r_13]) (by simp) ?_
 (conv in k_13=>reduce); unfold r_13
 simp only[v07] at ha
 simp[z0o]
 refine z00 (v10 a.grams (by omega)) (by simp) ?_
 simp
 refine z00 (y10 a.stores (by omega)) (by simp) ?_
 simp
 refine z00 (d0w a.tenants (by omega)) (by simp) ?_
 simp
end
section
attribute [-simp] z03 z05 z02
def k_97:K:=dc 0x1042c12c10020400c4101e4104100a08a03924d1090400810000480481c60aba451c1006140042142046141004039042002a29202040
def r_97:Nat×List RV:=(12,[.t 4])
theorem c_97:z01 PA 97 r_97 k_97:=by unfold z01; kernel_rfl
theorem v1p (a:TStore) (left:Int) (h:p0l a) (h2:0≤left) (h3:left<2 ^ 40):z06 Tryz.prog 97 [.agg (y0h a),aI left] (aI (lft left (y0k a))):=by
 refine Prun c_97 (by simp[r_97]) (by simp) ?_
 (conv in k_97=>reduce); unfold r_97
 simp only[p0l] at h
 simp only[y0k]
 have hl0:=h
 simp[y0h]
 refine z00 (v1m a.lines (left) hl0 (by omega) (by omega)) (by simp) ?_
 by_cases g0:left<(wL x08 a.lines:Int)
 case pos=>simp only[z0j g0]; simp; try rw[z0j (by omega)]
 simp only[z0w (show (wL x08 a.lines:Int)≤left by omega)]
 have n0: ¬left - (wL x08 a.lines:Int)<0:=by omega
 simp[n0]
 try rw[z0w (by omega)]
 try omega
end
section
attribute [-simp] z03 z05 z02
def f1x:K:=dc 0x42c20022fc2c304208204024a0012fc283046248072a452070010870411850401460012fc1830061440010840401840400c376b0430000020b3a520410020ddac10c0000082ce9481002a29202040
def m1l:Nat×List RV:=(12,[.c 2 2 true])
theorem c_103:z01 PA 103 m1l f1x:=by unfold z01; kernel_rfl
theorem v1w (a:TStore) (ha:y0k a<2 ^ 31):z06 Tryz.prog 103 [.agg (y0h a)] (.agg (t06 a)):=by
 refine Prun c_103 (by simp[m1l]) (by simp) ?_
 (conv in f1x=>reduce); unfold m1l
 simp only[y0k] at ha
 simp[y0h]
 refine z00 (v1t a.lines (by omega)) (by simp) ?_
 simp[t06]
end
end Go.Am
