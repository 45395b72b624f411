/- Text 17 for FnExactAhead. -/
import Derived.Test.YtmpnhclbmgjpgaaGreatAhead5
set_option linter.unusedVariables false
set_option linter.unusedSimpArgs false
namespace Go.Am
open Go.Proofs
set_option maxHeartbeats 4000000
set_option maxRecDepth 100000
attribute [-simp] BitVec.toNat_or BitVec.toNat_and BitVec.toNat_ofInt
section
attribute [-simp] z03 z05
def k_18:K:=
 .seq (
  .reg none [⟨(some 1),none,.box 42 10 (.t 0)⟩,
   ⟨(some 2),none,.asn (.c (.bool false))⟩]) (
 .seq (
  .seq (
   .reg none [⟨(some 7),none,.fad 0 (.t 1)⟩,
    ⟨(some 8),none,.ld 1 false (.t 7)⟩,
    ⟨(some 9),none,.call 58 [(.t 8),(.c (.int .i64 (1))),(.c (.int .i64 (20)))]⟩,
    ⟨(some 10),none,.not (.t 9)⟩,
    ⟨(some 11),none,.mv (.t 10)⟩,
    ⟨(some 12),(some (11,false)),.fad 1 (.t 1)⟩,
    ⟨(some 13),(some (11,false)),.ld 1 false (.t 12)⟩,
    ⟨(some 14),(some (11,false)),.call 58 [(.t 13),(.c (.int .i64 (0))),(.c (.int .i64 (2)))]⟩,
    ⟨(some 15),(some (11,false)),.not (.t 14)⟩,
    ⟨(some 16),none,.pick (.t 11) (.c (.bool true)) (.t 15)⟩,
    ⟨(some 17),none,.mv (.t 16)⟩,
    ⟨(some 18),(some (17,false)),.fad 2 (.t 1)⟩,
    ⟨(some 19),(some (17,false)),.ld 1 false (.t 18)⟩,
    ⟨(some 20),(some (17,false)),.call 58 [(.t 19),(.c (.int .i64 (0))),(.c (.int .i64 (5000)))]⟩,
    ⟨(some 21),(some (17,false)),.not (.t 20)⟩,
    ⟨(some 22),none,.pick (.t 17) (.c (.bool true)) (.t 21)⟩,
    ⟨(some 23),none,.mv (.t 22)⟩,
    ⟨(some 24),(some (23,false)),.fad 3 (.t 1)⟩,
    ⟨(some 25),(some (23,false)),.ld 1 false (.t 24)⟩,
    ⟨(some 26),(some (23,false)),.fad 2 (.t 1)⟩,
    ⟨(some 27),(some (23,false)),.ld 1 false (.t 26)⟩,
    ⟨(some 28),(some (23,false)),.call 58 [(.t 25),(.c (.int .i64 (0))),(.t 27)]⟩,
    ⟨(some 29),(some (23,false)),.not (.t 28)⟩,
    ⟨(some 30),none,.pick (.t 23) (.c (.bool true)) (.t 29)⟩]) (
  .cond (.t 30) (
   .seq (
    .reg none [⟨(some 2),none,.asn (.c (.bool false))⟩]) (
   .ret)) (
   .skip))) (
 .seq (
  .seq (
   .reg none [⟨(some 31),none,.fad 4 (.t 1)⟩,
    ⟨(some 32),none,.ld 1 false (.t 31)⟩,
    ⟨(some 33),none,.call 58 [(.t 32),(.c (.int .i64 (0))),(.c (.int .i64 (1000000)))]⟩,
    ⟨(some 34),none,.not (.t 33)⟩,
    ⟨(some 35),none,.mv (.t 34)⟩,
    ⟨(some 36),(some (35,false)),.fad 5 (.t 1)⟩,
    ⟨(some 37),(some (35,false)),.ld 1 false (.t 36)⟩,
    ⟨(some 38),(some (35,false)),.call 58 [(.t 37),(.c (.int .i64 (0))),(.c (.int .i64 (1000000)))]⟩,
    ⟨(some 39),(some (35,false)),.not (.t 38)⟩,
    ⟨(some 40),none,.pick (.t 35) (.c (.bool true)) (.t 39)⟩,
    ⟨(some 41),none,.mv (.t 40)⟩,
    ⟨(some 42),(some (41,false)),.fad 4 (.t 1)⟩,
    ⟨(some 43),(some (41,false)),.ld 1 false (.t 42)⟩,
    ⟨(some 44),(some (41,false)),.bin .gtr (.t 43) (.c (.int .i64 (0)))⟩,
    ⟨(some 45),(some (41,false)),.mv (.t 44)⟩,
    ⟨(some 46),(some (45,true)),.fad 8 (.t 1)⟩,
    ⟨(some 47),(some (45,true)),.ld 1 false (.t 46)⟩,
    ⟨(some 48),(some (45,true)),.len (.t 47)⟩,
    ⟨(some 49),(some (45,true)),.bin .eql (.t 48) (.c (.int .i64 (0)))⟩,
    ⟨(some 50),(some (41,false)),.pick (.t 45) (.t 49) (.c (.bool false))⟩,
    ⟨(some 51),none,.pick (.t 41) (.c (.bool true)) (.t 50)⟩]) (
  .cond (.t 51) (
   .seq (
    .reg none [⟨(some 2),none,.asn (.c (.bool false))⟩]) (
   .ret)) (
   .skip))) (
 .seq (
  .seq (
   .reg none [⟨(some 52),none,.fad 7 (.t 1)⟩,
    ⟨(some 53),none,.ld 1 false (.t 52)⟩,
    ⟨(some 54),none,.call 58 [(.t 53),(.c (.int .i64 (0))),(.c (.int .i64 (1000000)))]⟩,
    ⟨(some 55),none,.not (.t 54)⟩,
    ⟨(some 56),none,.mv (.t 55)⟩,
    ⟨(some 57),(some (56,false)),.fad 6 (.t 1)⟩,
    ⟨(some 58),(some (56,false)),.ld 1 false (.t 57)⟩,
    ⟨(some 59),(some (56,false)),.call 58 [(.t 58),(.c (.int .i64 (0))),(.c (.int .i64 (1000000)))]⟩,
    ⟨(some 60),(some (56,false)),.not (.t 59)⟩,
    ⟨(some 61),none,.pick (.t 56) (.c (.bool true)) (.t 60)⟩,
    ⟨(some 62),none,.mv (.t 61)⟩,
    ⟨(some 63),(some (62,false)),.fad 6 (.t 1)⟩,
    ⟨(some 64),(some (62,false)),.ld 1 false (.t 63)⟩,
    ⟨(some 65),(some (62,false)),.fad 7 (.t 1)⟩,
    ⟨(some 66),(some (62,false)),.ld 1 false (.t 65)⟩,
    ⟨(some 67),(some (62,false)),.bin .sub (.t 64) (.t 66)⟩,
    ⟨(some 68),(some (62,false)),.call 58 [(.t 67),(.c (.int .i64 (0))),(.c (.int .i64 (6)))]⟩,
    ⟨(some 69),(some (62,false)),.not (.t 68)⟩,
    ⟨(some 70),none,.pick (.t 62) (.c (.bool true)) (.t 69)⟩,
    ⟨(some 71),none,.mv (.t 70)⟩,
    ⟨(some 72),(some (71,false)),.fad 8 (.t 1)⟩,
    ⟨(some 73),(some (71,false)),.ld 1 false (.t 72)⟩,
    ⟨(some 74),(some (71,false)),.len (.t 73)⟩,
    ⟨(some 75),(some (71,false)),.bin .gtr (.t 74) (.c (.int .i64 (4)))⟩,
    ⟨(some 76),none,.pick (.t 71) (.c (.bool true)) (.t 75)⟩,
    ⟨(some 77),none,.mv (.t 76)⟩,
    ⟨(some 78),(some (77,false)),.fad 8 (.t 1)⟩,
    ⟨(some 79),(some (77,false)),.ld 1 false (.t 78)⟩,
    ⟨(some 80),(some (77,false)),.len (.t 79)⟩,
    ⟨(some 81),(some (77,false)),.fad 9 (.t 1)⟩,
    ⟨(some 82),(some (77,false)),.ld 1 false (.t 81)⟩,
    ⟨(some 83),(some (77,false)),.len (.t 82)⟩,
    ⟨(some 84),(some (77,false)),.bin .add (.t 80) (.t 83)⟩,
    ⟨(some 85),(some (77,false)),.fad 6 (.t 1)⟩,
    ⟨(some 86),(some (77,false)),.ld 1 false (.t 85)⟩,
    ⟨(some 87),(some (77,false)),.fad 7 (.t 1)⟩,
    ⟨(some 88),(some (77,false)),.ld 1 false (.t 87)⟩,
    ⟨(some 89),(some (77,false)),.bin .sub (.t 86) (.t 88)⟩,
    ⟨(some 90),(some (77,false)),.bin .neq (.t 84) (.t 89)⟩,
    ⟨(some 91),none,.pick (.t 77) (.c (.bool true)) (.t 90)⟩]) (
  .cond (.t 91) (
   .seq (
    .reg none [⟨(some 2),none,.asn (.c (.bool false))⟩]) (
   .ret)) (
   .skip))) (
 .seq (
  .seq (
   .reg none [⟨(some 92),none,.fad 7 (.t 1)⟩,
    ⟨(some 93),none,.ld 1 false (.t 92)⟩,
    ⟨(some 3),none,.asn (.t 93)⟩]) (
  .block 0 (
   .loop (some ([1,3],[1,3,1000])) (
    .seq (
     .seq (
      .reg none [⟨(some 94),none,.mv (.t 3)⟩,
       ⟨(some 95),none,.fad 6 (.t 1)⟩,
       ⟨(some 96),none,.ld 1 false (.t 95)⟩,
       ⟨(some 97),none,.bin .lss (.t 94) (.t 96)⟩]) (
     .cond (.t 97) (
      .skip) (
      .exit 0))) (
    .seq (
     .block 1 (
      .seq (
       .reg none [⟨(some 100),none,.ld 10 true (.t 1)⟩,
        ⟨(some 101),none,.mv (.t 3)⟩,
        ⟨(some 102),none,.call 59 [(.t 100),(.t 101)]⟩,
        ⟨(some 103),none,.bin .neq (.t 102) (.c (.int .i64 (1)))⟩]) (
      .cond (.t 103) (
       .seq (
        .reg none [⟨(some 2),none,.asn (.c (.bool false))⟩]) (
       .ret)) (
       .skip)))) (
    .reg none [⟨(some 98),none,.mv (.t 3)⟩,
     ⟨(some 99),none,.bin .add (.t 98) (.c (.int .i64 (1)))⟩,
     ⟨(some 3),none,.asn (.t 99)⟩])))))) (
 .seq (
  .seq (
   .reg none [⟨(some 4),none,.asn (.c (.int .i64 (0)))⟩]) (
  .block 2 (
   .loop (some ([1,4],[1,4,1000])) (
    .seq (
     .seq (
      .reg none [⟨(some 104),none,.mv (.t 4)⟩,
       ⟨(some 105),none,.fad 8 (.t 1)⟩,
       ⟨(some 106),none,.ld 1 false (.t 105)⟩,
       ⟨(some 107),none,.len (.t 106)⟩,
       ⟨(some 108),none,.bin .lss (.t 104) (.t 107)⟩]) (
     .cond (.t 108) (
      .skip) (
      .exit 2))) (
    .seq (
     .block 3 (
      .seq (
       .reg none [⟨(some 111),none,.fad 8 (.t 1)⟩,
        ⟨(some 112),none,.ld 1 false (.t 111)⟩,
        ⟨(some 113),none,.mv (.t 4)⟩,
        ⟨(some 114),none,.iad 10 (.t 112) (.t 113)⟩,
        ⟨(some 115),none,.ld 10 true (.t 114)⟩,
        ⟨(some 5),none,.alc 63 10 [(.int .i64 (0)),(.int .i64 (0)),(.ar true 3 1 []),(.int .i64 (0)),(.int .i64 (0)),(.int .i64 (0)),(.int .i64 (0)),(.ar true 203 2 []),(.ar true 282 5 []),(.ar true 222 3 [])]⟩,
        ⟨none,none,.st 10 false (.t 5) (.t 115)⟩]) (
      .seq (
       .drw none 32 [⟨(some 116),none,.mv (.t 4)⟩,
        ⟨(some 117),none,.bin .gtr (.t 116) (.c (.int .i64 (0)))⟩,
        ⟨(some 118),none,.mv (.t 117)⟩,
        ⟨(some 119),(some (118,true)),.fad 0 (.t 5)⟩,
        ⟨(some 120),(some (118,true)),.ld 1 false (.t 119)⟩,
        ⟨(some 121),(some (118,true)),.fad 8 (.t 1)⟩,
        ⟨(some 122),(some (118,true)),.ld 1 false (.t 121)⟩,
        ⟨(some 123),(some (118,true)),.mv (.t 4)⟩,
        ⟨(some 124),(some (118,true)),.bin .sub (.t 123) (.c (.int .i64 (1)))⟩,
        ⟨(some 125),(some (118,true)),.iad 10 (.t 122) (.t 124)⟩,
        ⟨(some 126),(some (118,true)),.fad 0 (.t 125)⟩,
        ⟨(some 127),(some (118,true)),.ld 1 false (.t 126)⟩,
        ⟨(some 128),(some (118,true)),.bin .leq (.t 120) (.t 127)⟩,
        ⟨(some 129),none,.pick (.t 118) (.t 128) (.c (.bool false))⟩,
        ⟨(some 130),none,.mv (.t 129)⟩,
        ⟨(some 131),(some (130,false)),.fad 2 (.t 5)⟩,
        ⟨(some 132),(some (130,false)),.ld 1 false (.t 131)⟩,
        ⟨(some 133),(some (130,false)),.call 60 [(.t 132)]⟩,
        ⟨(some 134),(some (130,false)),.not (.t 133)⟩,
        ⟨(some 135),none,.pick (.t 130) (.c (.bool true)) (.t 134)⟩,
        ⟨(some 136),none,.mv (.t 135)⟩,
        ⟨(some 137),(some (136,false)),.fad 1 (.t 5)⟩,
        ⟨(some 138),(some (136,false)),.ld 1 false (.t 137)⟩,
        ⟨(some 139),(some (136,false)),.call 58 [(.t 138),(.c (.int .i64 (0))),(.c (.int .i64 (3)))]⟩,
        ⟨(some 140),(some (136,false)),.not (.t 139)⟩,
        ⟨(some 141),none,.pick (.t 136) (.c (.bool true)) (.t 140)⟩,
        ⟨(some 142),none,.mv (.t 141)⟩,
        ⟨(some 143),(some (142,false)),.fad 3 (.t 5)⟩,
        ⟨(some 144),(some (142,false)),.fad 0 (.t 143)⟩,
        ⟨(some 145),(some (142,false)),.ld 1 false (.t 144)⟩,
        ⟨(some 146),(some (142,false)),.bin .neq (.t 145) (.c (.int .i64 (0)))⟩,
        ⟨(some 147),none,.pick (.t 142) (.c (.bool true)) (.t 146)⟩]) (
      .cond (.t 147) (
       .seq (
        .reg none [⟨(some 2),none,.asn (.c (.bool false))⟩]) (
       .ret)) (
       .skip))))) (
    .reg none [⟨(some 109),none,.mv (.t 4)⟩,
     ⟨(some 110),none,.bin .add (.t 109) (.c (.int .i64 (1)))⟩,
     ⟨(some 4),none,.asn (.t 110)⟩])))))) (
 .seq (
  .seq (
   .reg none [⟨(some 6),none,.asn (.c (.int .i64 (0)))⟩]) (
  .block 4 (
   .loop (some ([1,6],[1,6,1000])) (
    .seq (
     .seq (
      .reg none [⟨(some 148),none,.mv (.t 6)⟩,
       ⟨(some 149),none,.fad 9 (.t 1)⟩,
       ⟨(some 150),none,.ld 1 false (.t 149)⟩,
       ⟨(some 151),none,.len (.t 150)⟩,
       ⟨(some 152),none,.bin .lss (.t 148) (.t 151)⟩]) (
     .cond (.t 152) (
      .skip) (
      .exit 4))) (
    .seq (
     .block 5 (
      .seq (
       .drw none 28 [⟨(some 155),none,.mv (.t 6)⟩,
        ⟨(some 156),none,.bin .gtr (.t 155) (.c (.int .i64 (0)))⟩,
        ⟨(some 157),none,.mv (.t 156)⟩,
        ⟨(some 158),(some (157,true)),.fad 9 (.t 1)⟩,
        ⟨(some 159),(some (157,true)),.ld 1 false (.t 158)⟩,
        ⟨(some 160),(some (157,true)),.mv (.t 6)⟩,
        ⟨(some 161),(some (157,true)),.iad 3 (.t 159) (.t 160)⟩,
        ⟨(some 162),(some (157,true)),.fad 0 (.t 161)⟩,
        ⟨(some 163),(some (157,true)),.ld 1 false (.t 162)⟩,
        ⟨(some 164),(some (157,true)),.fad 9 (.t 1)⟩,
        ⟨(some 165),(some (157,true)),.ld 1 false (.t 164)⟩,
        ⟨(some 166),(some (157,true)),.mv (.t 6)⟩,
        ⟨(some 167),(some (157,true)),.bin .sub (.t 166) (.c (.int .i64 (1)))⟩,
        ⟨(some 168),(some (157,true)),.iad 3 (.t 165) (.t 167)⟩,
        ⟨(some 169),(some (157,true)),.fad 0 (.t 168)⟩,
        ⟨(some 170),(some (157,true)),.ld 1 false (.t 169)⟩,
        ⟨(some 171),(some (157,true)),.bin .leq (.t 163) (.t 170)⟩,
        ⟨(some 172),none,.pick (.t 157) (.t 171) (.c (.bool false))⟩,
        ⟨(some 173),none,.mv (.t 172)⟩,
        ⟨(some 174),(some (173,false)),.fad 9 (.t 1)⟩,
        ⟨(some 175),(some (173,false)),.ld 1 false (.t 174)⟩,
        ⟨(some 176),(some (173,false)),.mv (.t 6)⟩,
        ⟨(some 177),(some (173,false)),.iad 3 (.t 175) (.t 176)⟩,
        ⟨(some 178),(some (173,false)),.fad 1 (.t 177)⟩,
        ⟨(some 179),(some (173,false)),.ld 1 false (.t 178)⟩,
        ⟨(some 180),(some (173,false)),.call 61 [(.t 179)]⟩,
        ⟨(some 181),(some (173,false)),.bin .eql (.t 180) (.c (.str ⟨#[]⟩))⟩,
        ⟨(some 182),none,.pick (.t 173) (.c (.bool true)) (.t 181)⟩]) (
      .cond (.t 182) (
       .seq (
        .reg none [⟨(some 2),none,.asn (.c (.bool false))⟩]) (
       .ret)) (
       .skip)))) (
    .reg none [⟨(some 153),none,.mv (.t 6)⟩,
     ⟨(some 154),none,.bin .add (.t 153) (.c (.int .i64 (1)))⟩,
     ⟨(some 6),none,.asn (.t 154)⟩])))))) (
 .seq (
  .reg none [⟨(some 2),none,.asn (.c (.bool true))⟩]) (
 .ret))))))))
def r_18:Nat×List RV:=(183,[.t 2])
theorem c_18:z01 PA 18 r_18 k_18:=by unfold z01; kernel_rfl
theorem m0o (t:TTenant) (hw:y0b t<2 ^ 40):z06 Tryz.prog 18 [.agg (z07 t)] (aB (z0t t)):=by
 refine Prun c_18 (by simp[r_18]) (by simp) ?_
 unfold k_18 r_18
 have hlq:=z0a wJob t.queue
 have hlo:=z0a y06 t.out
 simp only[y0b] at hw
 simp[z07]
 refine z00 (z0f _ _ _) (by simp) ?_
 cases c1:inr t.quantum 1 20
 ·simp[c1,z0t,hdQ]
 simp[c1]
 refine z00 (z0f _ _ _) (by simp) ?_
 cases c2:inr t.cls 0 2
 ·simp[c2,z0t,hdQ]
 simp[c2]
 refine z00 (z0f _ _ _) (by simp) ?_
 cases c3:inr t.budget 0 5000
 ·simp[c3,z0t,hdQ]
 simp[c3]
 refine z00 (z0f _ _ _) (by simp) ?_
 cases c4:inr t.used 0 t.budget
 ·simp[c4,z0t,hdQ]
 simp[c4]
 refine z00 (z0f _ _ _) (by simp) ?_
 cases c5:inr t.wait 0 1000000
 ·simp[c5,z0t,hdC]
 simp[c5]
 refine z00 (z0f _ _ _) (by simp) ?_
 cases c6:inr t.turns 0 1000000
 ·simp[c6,z0t,hdC]
 simp[c6]
 have b5:=z0l.1 c5
 have wn: ∀{n:Int}, -4000000≤n→n≤4000000→IntKind.i64.wrap n=n:=fun h1 h2=>z08 (by omega) (by omega)
 have wq:IntKind.i64.wrap ((t.queue.length:Int)+t.out.length)=t.queue.length+t.out.length:=z08 (by omega) (by omega)
 by_cases g1:0<t.wait
 ·by_cases g2:t.queue.length=0
  ·have g3:t.queue=[]:=List.eq_nil_of_length_eq_zero g2
   simp[g1,g3,z0t]
  simp[g1,g2]
  refine z00 (z0f _ _ _) (by simp) ?_
  cases c7:inr t.due 0 1000000
  ·simp[c7,z0t,hdC]
  simp[c7]
  refine z00 (z0f _ _ _) (by simp) ?_
  cases c8:inr t.next 0 1000000
  ·simp[c8,z0t,hdC]
  have b7:=z0l.1 c7
  have b8:=z0l.1 c8
  have wd:IntKind.i64.wrap (t.next - t.due)=t.next - t.due:=wn (by omega) (by omega)
  simp[c8,wd]
  refine z00 (z0f _ _ _) (by simp) ?_
  cases c9:inr (t.next - t.due) 0 6
  ·simp[c9,z0t,hdC]
  simp[c9]
  have b9:=z0l.1 c9
  by_cases g4:(4:Int)<t.queue.length
  ·have g4': ¬t.queue.length≤4:=by omega
   simp[g4,g4',z0t]
  have g4':t.queue.length≤4:=by omega
  simp[g4,wq,wd]
  by_cases g5:(t.queue.length:Int)+t.out.length=t.next - t.due
  case neg=>simp[g5,z0t]
  simp[g5]
  obtain⟨N,hN⟩: ∃N:Nat,(N:Int)=t.next - t.due:=⟨(t.next - t.due).toNat,by omega⟩
  have hN2:(t.next - t.due).toNat=N:=by omega
  refine z04 (fun n σ=>∃i:Nat,i≤N∧n=N - i∧allN (p1T t) i=true∧σ=⟨[(1,.one (.pt 10 1 [] 0 0)),(3,aI (t.due+i))],[(1,⟨42,10,[z07 t]⟩)]⟩) N ⟨0,by simp[z07,allN]⟩ ?_
  rintro n σ ⟨i,hi,rfl,ha,rfl⟩
  by_cases h:i<N
  ·have h':t.due+(i:Int)<t.next:=by omega
   have w1:IntKind.i64.wrap (t.due+(i:Int)+1)=t.due+(i+1:Nat):=by rw[wn (by omega) (by omega)]; omega
   simp[z07,h', -Int.natCast_add]
   refine z00 (b0y t (t.due+i) (by omega) (by omega)) (by simp[z07]) ?_
   by_cases c:hasT t (t.due+i)=1
   ·simp[c]
    refine⟨N - (i+1),by omega,i+1,by omega,rfl,by rw[v0a,ha]; simp[p1T,c],?_⟩
    rw[w1]
   ·have hf:=s0f (p:=p1T t) h (by simpa [p1T] using c)
    have c': ¬((hasT t (t.due+i):Nat):Int)=1:=by omega
    simp[c',z0t,hN2,hf]
  have:i=N:=by omega
  subst this
  have ha1:=ha
  clear ha
  have h': ¬(t.due+(i:Int)<t.next):=by omega
  simp[z07,h']
  clear h h' hi
  refine z04 (fun n σ=>∃i:Nat,i≤t.queue.length∧n=t.queue.length - i∧allN (p2T t) i=true∧σ=⟨[(1,.one (.pt 10 1 [] 0 0)),(4,aI i)],[(1,⟨42,10,[z07 t]⟩)]⟩) t.queue.length ⟨0,by simp[z07,allN]⟩ ?_
  rintro n σ ⟨i,hi,rfl,ha,rfl⟩
  by_cases h:i<t.queue.length
  ·have hqi:(qT t).getD i 0=t.queue[i].ticket:=by simp[qT,List.getD,h]
   have hqj:t.queue.getD i default=t.queue[i]:=by simp[List.getD,h]
   have w1:IntKind.i64.wrap ((i:Int)+1)=i+1:=z08 (by omega) (by omega)
   have hff:p2T t i=false→z0t t=false:=fun hp=>by
    have:=s0f h hp
    unfold z0t
    rw[this]; simp only[Bool.and_false,Bool.false_and]
   have hin: ∀{b:Bool},y08 t.queue[i].input=b→(b=false→p2T t i=false):=fun h1 h2=>by
    unfold p2T; rw[hqj,x0o,h1,h2]; simp only[Bool.and_false,Bool.false_and]
   have hst:p2T t i=true→allN (p2T t) (i+1)=true:=fun hp=>by rw[v0a,ha,hp]; rfl
   by_cases h0:i=0
   ·have hsr:x04 (qT t) i=true:=by simp[x04,h0]
    have h0n: ¬0<i:=by omega
    simp[z07,h,sJob,h0n]
    refine⟨_,by simp,w0v _,?_⟩
    cases d1:y08 t.queue[i].input
    ·have:=hff (by unfold p2T; rw[hqj,x0o,d1]; simp only[Bool.and_false,Bool.false_and])
     simp[this]
    simp
    refine⟨_,by simp,z0f _ _ _,?_⟩
    cases d2:inr t.queue[i].gram 0 3
    ·have:=hff (by unfold p2T; rw[hqj,x0o,d2]; simp only[Bool.and_false,Bool.false_and])
     simp[this]
    simp
    by_cases d3:t.queue[i].run.code=0
    ·have hp:p2T t i=true:=by unfold p2T; rw[hqj,x0o,d1,d2,d3,hsr]; rfl
     simp[d3]
     refine⟨t.queue.length - (i+1),by omega,i+1,by omega,rfl,hst hp,?_⟩
     simp[w1,z07]
    ·have:=hff (by unfold p2T; rw[hqj,x0o]; simp[d3])
     simp[d3,this]
   ·have h1:i - 1<t.queue.length:=by omega
    have h0': ¬(i:Int)=0:=by omega
    have h0'':0<i:=by omega
    have w2:IntKind.i64.wrap ((i:Int) - 1)=((i - 1:Nat):Int):=by rw[z08 (by omega) (by omega)]; omega
    have hqi1:(qT t).getD (i - 1) 0=t.queue[i - 1].ticket:=by simp[qT,List.getD,h1]
    simp[z07,h,sJob,h0'',w2,h1]
    by_cases c0:t.queue[i].ticket≤t.queue[i - 1].ticket
    ·have hsr:x04 (qT t) i=false:=by simp only[x04,hqi,hqi1]; simp[h0]; omega
     have:=hff (by unfold p2T; rw[hsr]; rfl)
     simp[c0,this]
    have hsr:x04 (qT t) i=true:=by simp only[x04,hqi,hqi1]; simp; omega
    simp[c0]
    refine⟨_,by simp,w0v _,?_⟩
    cases d1:y08 t.queue[i].input
    ·have:=hff (by unfold p2T; rw[hqj,x0o,d1]; simp only[Bool.and_false,Bool.false_and])
     simp[this]
    simp
    refine⟨_,by simp,z0f _ _ _,?_⟩
    cases d2:inr t.queue[i].gram 0 3
    ·have:=hff (by unfold p2T; rw[hqj,x0o,d2]; simp only[Bool.and_false,Bool.false_and])
     simp[this]
    simp
    by_cases d3:t.queue[i].run.code=0
    ·have hp:p2T t i=true:=by unfold p2T; rw[hqj,x0o,d1,d2,d3,hsr]; rfl
     simp[d3]
     refine⟨t.queue.length - (i+1),by omega,i+1,by omega,rfl,hst hp,?_⟩
     simp[w1,z07]
    ·have:=hff (by unfold p2T; rw[hqj,x0o]; simp[d3])
     simp[d3,this]
  have:i=t.queue.length:=by omega
  subst this
  have ha2:=ha
  clear ha
  simp[z07]
  refine z04 (fun n σ=>∃i:Nat,i≤t.out.length∧n=t.out.length - i∧allN (p3T t) i=true∧σ=⟨[(1,.one (.pt 10 1 [] 0 0)),(6,aI i)],[(1,⟨42,10,[z07 t]⟩)]⟩) t.out.length ⟨0,by simp[z07,allN]⟩ ?_
  rintro n σ ⟨i,hi,rfl,ha,rfl⟩
  by_cases h:i<t.out.length
  ·have hqi:(oT t).getD i 0=t.out[i].ticket:=by simp[oT,List.getD,h]
   have hqj:t.out.getD i default=t.out[i]:=by simp[List.getD,h]
   have w1:IntKind.i64.wrap ((i:Int)+1)=i+1:=z08 (by omega) (by omega)
   have hff:p3T t i=false→z0t t=false:=fun hp=>by
    have:=s0f h hp
    unfold z0t
    rw[this]; simp only[Bool.and_false]
   have hst:p3T t i=true→allN (p3T t) (i+1)=true:=fun hp=>by rw[v0a,ha,hp]; rfl
   by_cases h0:i=0
   ·have hsr:x04 (oT t) i=true:=by simp[x04,h0]
    have h0n: ¬0<i:=by omega
    simp[z07,h,z0u,h0n]
    refine⟨_,by simp,v0d _,?_⟩
    cases d1:inr t.out[i].code 0 6
    ·have:=hff (by unfold p3T; rw[hqj,d1]; simp only[Bool.and_false])
     simp[aS,v0n d1,this]
    ·have hp:p3T t i=true:=by unfold p3T; rw[hqj,d1,hsr]; rfl
     simp[aS,v0m d1]
     refine⟨t.out.length - (i+1),by omega,i+1,by omega,rfl,hst hp,?_⟩
     simp[w1,z07]
   ·have h1:i - 1<t.out.length:=by omega
    have h0'':0<i:=by omega
    have w2:IntKind.i64.wrap ((i:Int) - 1)=((i - 1:Nat):Int):=by rw[z08 (by omega) (by omega)]; omega
    have hqi1:(oT t).getD (i - 1) 0=t.out[i - 1].ticket:=by simp[oT,List.getD,h1]
    simp[z07,h,z0u,h0'',w2,h1]
    by_cases c0:t.out[i].ticket≤t.out[i - 1].ticket
    ·have hsr:x04 (oT t) i=false:=by simp only[x04,hqi,hqi1]; simp[h0]; omega
     have:=hff (by unfold p3T; rw[hsr]; rfl)
     simp[c0,this]
    have hsr:x04 (oT t) i=true:=by simp only[x04,hqi,hqi1]; simp; omega
    simp[c0,h,z0u]
    refine⟨_,by simp,v0d _,?_⟩
    cases d1:inr t.out[i].code 0 6
    ·have:=hff (by unfold p3T; rw[hqj,d1]; simp only[Bool.and_false])
     simp[aS,v0n d1,this]
    ·have hp:p3T t i=true:=by unfold p3T; rw[hqj,d1,hsr]; rfl
     simp[aS,v0m d1]
     refine⟨t.out.length - (i+1),by omega,i+1,by omega,rfl,hst hp,?_⟩
     simp[w1,z07]
  have:i=t.out.length:=by omega
  subst this
  have hfin:z0t t=true:=by
   unfold z0t
   rw[hN2,ha1,ha2,ha]
   simp[hdQ,hdC,c1,c2,c3,c4,c5,c6,c7,c8,c9,g1,g4',g5,g2]
  simp[z07,hfin]
 ·simp[g1]
  refine z00 (z0f _ _ _) (by simp) ?_
  cases c7:inr t.due 0 1000000
  ·simp[c7,z0t,hdC]
  simp[c7]
  refine z00 (z0f _ _ _) (by simp) ?_
  cases c8:inr t.next 0 1000000
  ·simp[c8,z0t,hdC]
  have b7:=z0l.1 c7
  have b8:=z0l.1 c8
  have wd:IntKind.i64.wrap (t.next - t.due)=t.next - t.due:=wn (by omega) (by omega)
  simp[c8,wd]
  refine z00 (z0f _ _ _) (by simp) ?_
  cases c9:inr (t.next - t.due) 0 6
  ·simp[c9,z0t,hdC]
  simp[c9]
  have b9:=z0l.1 c9
  by_cases g4:(4:Int)<t.queue.length
  ·have g4': ¬t.queue.length≤4:=by omega
   simp[g4,g4',z0t]
  have g4':t.queue.length≤4:=by omega
  simp[g4,wq,wd]
  by_cases g5:(t.queue.length:Int)+t.out.length=t.next - t.due
  case neg=>simp[g5,z0t]
  simp[g5]
  obtain⟨N,hN⟩: ∃N:Nat,(N:Int)=t.next - t.due:=⟨(t.next - t.due).toNat,by omega⟩
  have hN2:(t.next - t.due).toNat=N:=by omega
  refine z04 (fun n σ=>∃i:Nat,i≤N∧n=N - i∧allN (p1T t) i=true∧σ=⟨[(1,.one (.pt 10 1 [] 0 0)),(3,aI (t.due+i))],[(1,⟨42,10,[z07 t]⟩)]⟩) N ⟨0,by simp[z07,allN]⟩ ?_
  rintro n σ ⟨i,hi,rfl,ha,rfl⟩
  by_cases h:i<N
  ·have h':t.due+(i:Int)<t.next:=by omega
   have w1:IntKind.i64.wrap (t.due+(i:Int)+1)=t.due+(i+1:Nat):=by rw[wn (by omega) (by omega)]; omega
   simp[z07,h', -Int.natCast_add]
   refine z00 (b0y t (t.due+i) (by omega) (by omega)) (by simp[z07]) ?_
   by_cases c:hasT t (t.due+i)=1
   ·simp[c]
    refine⟨N - (i+1),by omega,i+1,by omega,rfl,by rw[v0a,ha]; simp[p1T,c],?_⟩
    rw[w1]
   ·have hf:=s0f (p:=p1T t) h (by simpa [p1T] using c)
    have c': ¬((hasT t (t.due+i):Nat):Int)=1:=by omega
    simp[c',z0t,hN2,hf]
  have:i=N:=by omega
  subst this
  have ha1:=ha
  clear ha
  have h': ¬(t.due+(i:Int)<t.next):=by omega
  simp[z07,h']
  clear h h' hi
  refine z04 (fun n σ=>∃i:Nat,i≤t.queue.length∧n=t.queue.length - i∧allN (p2T t) i=true∧σ=⟨[(1,.one (.pt 10 1 [] 0 0)),(4,aI i)],[(1,⟨42,10,[z07 t]⟩)]⟩) t.queue.length ⟨0,by simp[z07,allN]⟩ ?_
  rintro n σ ⟨i,hi,rfl,ha,rfl⟩
  by_cases h:i<t.queue.length
  ·have hqi:(qT t).getD i 0=t.queue[i].ticket:=by simp[qT,List.getD,h]
   have hqj:t.queue.getD i default=t.queue[i]:=by simp[List.getD,h]
   have w1:IntKind.i64.wrap ((i:Int)+1)=i+1:=z08 (by omega) (by omega)
   have hff:p2T t i=false→z0t t=false:=fun hp=>by
    have:=s0f h hp
    unfold z0t
    rw[this]; simp only[Bool.and_false,Bool.false_and]
   have hin: ∀{b:Bool},y08 t.queue[i].input=b→(b=false→p2T t i=false):=fun h1 h2=>by
    unfold p2T; rw[hqj,x0o,h1,h2]; simp only[Bool.and_false,Bool.false_and]
   have hst:p2T t i=true→allN (p2T t) (i+1)=true:=fun hp=>by rw[v0a,ha,hp]; rfl
   by_cases h0:i=0
   ·have hsr:x04 (qT t) i=true:=by simp[x04,h0]
    have h0n: ¬0<i:=by omega
    simp[z07,h,sJob,h0n]
    refine⟨_,by simp,w0v _,?_⟩
    cases d1:y08 t.queue[i].input
    ·have:=hff (by unfold p2T; rw[hqj,x0o,d1]; simp only[Bool.and_false,Bool.false_and])
     simp[this]
    simp
    refine⟨_,by simp,z0f _ _ _,?_⟩
    cases d2:inr t.queue[i].gram 0 3
    ·have:=hff (by unfold p2T; rw[hqj,x0o,d2]; simp only[Bool.and_false,Bool.false_and])
     simp[this]
    simp
    by_cases d3:t.queue[i].run.code=0
    ·have hp:p2T t i=true:=by unfold p2T; rw[hqj,x0o,d1,d2,d3,hsr]; rfl
     simp[d3]
     refine⟨t.queue.length - (i+1),by omega,i+1,by omega,rfl,hst hp,?_⟩
     simp[w1,z07]
    ·have:=hff (by unfold p2T; rw[hqj,x0o]; simp[d3])
     simp[d3,this]
   ·have h1:i - 1<t.queue.length:=by omega
    have h0': ¬(i:Int)=0:=by omega
    have h0'':0<i:=by omega
    have w2:IntKind.i64.wrap ((i:Int) - 1)=((i - 1:Nat):Int):=by rw[z08 (by omega) (by omega)]; omega
    have hqi1:(qT t).getD (i - 1) 0=t.queue[i - 1].ticket:=by simp[qT,List.getD,h1]
    simp[z07,h,sJob,h0'',w2,h1]
    by_cases c0:t.queue[i].ticket≤t.queue[i - 1].ticket
    ·have hsr:x04 (qT t) i=false:=by simp only[x04,hqi,hqi1]; simp[h0]; omega
     have:=hff (by unfold p2T; rw[hsr]; rfl)
     simp[c0,this]
    have hsr:x04 (qT t) i=true:=by simp only[x04,hqi,hqi1]; simp; omega
    simp[c0]
    refine⟨_,by simp,w0v _,?_⟩
    cases d1:y08 t.queue[i].input
    ·have:=hff (by unfold p2T; rw[hqj,x0o,d1]; simp only[Bool.and_false,Bool.false_and])
     simp[this]
    simp
    refine⟨_,by simp,z0f _ _ _,?_⟩
    cases d2:inr t.queue[i].gram 0 3
    ·have:=hff (by unfold p2T; rw[hqj,x0o,d2]; simp only[Bool.and_false,Bool.false_and])
     simp[this]
    simp
    by_cases d3:t.queue[i].run.code=0
    ·have hp:p2T t i=true:=by unfold p2T; rw[hqj,x0o,d1,d2,d3,hsr]; rfl
     simp[d3]
     refine⟨t.queue.length - (i+1),by omega,i+1,by omega,rfl,hst hp,?_⟩
     simp[w1,z07]
    ·have:=hff (by unfold p2T; rw[hqj,x0o]; simp[d3])
     simp[d3,this]
  have:i=t.queue.length:=by omega
  subst this
  have ha2:=ha
  clear ha
  simp[z07]
  refine z04 (fun n σ=>∃i:Nat,i≤t.out.length∧n=t.out.length - i∧allN (p3T t) i=true∧σ=⟨[(1,.one (.pt 10 1 [] 0 0)),(6,aI i)],[(1,⟨42,10,[z07 t]⟩)]⟩) t.out.length ⟨0,by simp[z07,allN]⟩ ?_
  rintro n σ ⟨i,hi,rfl,ha,rfl⟩
  by_cases h:i<t.out.length
  ·have hqi:(oT t).getD i 0=t.out[i].ticket:=by simp[oT,List.getD,h]
   have hqj:t.out.getD i default=t.out[i]:=by simp[List.getD,h]
   have w1:IntKind.i64.wrap ((i:Int)+1)=i+1:=z08 (by omega) (by omega)
   have hff:p3T t i=false→z0t t=false:=fun hp=>by
    have:=s0f h hp
    unfold z0t
    rw[this]; simp only[Bool.and_false]
   have hst:p3T t i=true→allN (p3T t) (i+1)=true:=fun hp=>by rw[v0a,ha,hp]; rfl
   by_cases h0:i=0
   ·have hsr:x04 (oT t) i=true:=by simp[x04,h0]
    have h0n: ¬0<i:=by omega
    simp[z07,h,z0u,h0n]
    refine⟨_,by simp,v0d _,?_⟩
    cases d1:inr t.out[i].code 0 6
    ·have:=hff (by unfold p3T; rw[hqj,d1]; simp only[Bool.and_false])
     simp[aS,v0n d1,this]
    ·have hp:p3T t i=true:=by unfold p3T; rw[hqj,d1,hsr]; rfl
     simp[aS,v0m d1]
     refine⟨t.out.length - (i+1),by omega,i+1,by omega,rfl,hst hp,?_⟩
     simp[w1,z07]
   ·have h1:i - 1<t.out.length:=by omega
    have h0'':0<i:=by omega
    have w2:IntKind.i64.wrap ((i:Int) - 1)=((i - 1:Nat):Int):=by rw[z08 (by omega) (by omega)]; omega
    have hqi1:(oT t).getD (i - 1) 0=t.out[i - 1].ticket:=by simp[oT,List.getD,h1]
    simp[z07,h,z0u,h0'',w2,h1]
    by_cases c0:t.out[i].ticket≤t.out[i - 1].ticket
    ·have hsr:x04 (oT t) i=false:=by simp only[x04,hqi,hqi1]; simp[h0]; omega
     have:=hff (by unfold p3T; rw[hsr]; rfl)
     simp[c0,this]
    have hsr:x04 (oT t) i=true:=by simp only[x04,hqi,hqi1]; simp; omega
    simp[c0,h,z0u]
    refine⟨_,by simp,v0d _,?_⟩
    cases d1:inr t.out[i].code 0 6
    ·have:=hff (by unfold p3T; rw[hqj,d1]; simp only[Bool.and_false])
     simp[aS,v0n d1,this]
    ·have hp:p3T t i=true:=by unfold p3T; rw[hqj,d1,hsr]; rfl
     simp[aS,v0m d1]
     refine⟨t.out.length - (i+1),by omega,i+1,by omega,rfl,hst hp,?_⟩
     simp[w1,z07]
  have:i=t.out.length:=by omega
  subst this
  have hfin:z0t t=true:=by
   unfold z0t
   rw[hN2,ha1,ha2,ha]
   simp[hdQ,hdC,c1,c2,c3,c4,c5,c6,c7,c8,c9,g1,g4',g5,Int.not_lt.1 g1]
  simp[z07,hfin]
end
end Go.Am
