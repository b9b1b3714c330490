/- What came in, read. No condition but on sizes. -/
import Derived.Test.YtdoilejecjaldaaGreatHM6
namespace Go.Proofs.YtdoilejecjaldaaGreat
set_option linter.unusedVariables false
open Go.ChangeShapes Go.WideShapes Go.ChangeAt Go.RowKit
theorem bQ6{w:World}(vs:List Value)(hl:vs.length=2)(h:RdL w [.int,.str] vs):∃ x:Z1,Enc.Rd 0 w vs x:=by
 obtain⟨u0,g0,r0⟩:=h.at (j:=0) rfl
 obtain⟨x0,rfl,p0⟩:=r0.int_inv
 obtain⟨u1,g1,r1⟩:=h.at (j:=1) rfl
 obtain⟨x1,rfl,p1⟩:=r1.str_inv
 replace p1:x1.size≤9223372036854775807:=by unfold maxLen at p1;omega
 refine⟨⟨x0,x1⟩,⟨Y6 hl ?_,⟨p0,p1,trivial⟩⟩⟩
 intro j y hy
 match j,hy with
 | 0,hy=>cases hy;exact g0
 | 1,hy=>cases hy;exact g1
theorem aQ4{w:World}(vs:List Value)(hl:vs.length=4)(h:RdL w [.int,.int,.int,.str] vs):∃ x:B4,Enc.Rd 0 w vs x:=by
 obtain⟨u0,g0,r0⟩:=h.at (j:=0) rfl
 obtain⟨x0,rfl,p0⟩:=r0.int_inv
 obtain⟨u1,g1,r1⟩:=h.at (j:=1) rfl
 obtain⟨x1,rfl,p1⟩:=r1.int_inv
 obtain⟨u2,g2,r2⟩:=h.at (j:=2) rfl
 obtain⟨x2,rfl,p2⟩:=r2.int_inv
 obtain⟨u3,g3,r3⟩:=h.at (j:=3) rfl
 obtain⟨x3,rfl,p3⟩:=r3.str_inv
 replace p3:x3.size≤9223372036854775807:=by unfold maxLen at p3;omega
 refine⟨⟨x0,x1,x2,x3⟩,⟨Y6 hl ?_,⟨p0,p1,p2,p3,trivial⟩⟩⟩
 intro j y hy
 match j,hy with
 | 0,hy=>cases hy;exact g0
 | 1,hy=>cases hy;exact g1
 | 2,hy=>cases hy;exact g2
 | 3,hy=>cases hy;exact g3
theorem bN7{w:World}(vs:List Value)(hl:vs.length=3)(h:RdL w [.int,.int,.int] vs):∃ x:V3,Enc.Rd 0 w vs x:=by
 obtain⟨u0,g0,r0⟩:=h.at (j:=0) rfl
 obtain⟨x0,rfl,p0⟩:=r0.int_inv
 obtain⟨u1,g1,r1⟩:=h.at (j:=1) rfl
 obtain⟨x1,rfl,p1⟩:=r1.int_inv
 obtain⟨u2,g2,r2⟩:=h.at (j:=2) rfl
 obtain⟨x2,rfl,p2⟩:=r2.int_inv
 refine⟨⟨x0,x1,x2⟩,⟨Y6 hl ?_,⟨p0,p1,p2,trivial⟩⟩⟩
 intro j y hy
 match j,hy with
 | 0,hy=>cases hy;exact g0
 | 1,hy=>cases hy;exact g1
 | 2,hy=>cases hy;exact g2
theorem bF0{w:World}(vs:List Value)(hl:vs.length=5)(h:RdL w [.int,.int,.int,.int,.int] vs):∃ x:A4,Enc.Rd 0 w vs x:=by
 obtain⟨u0,g0,r0⟩:=h.at (j:=0) rfl
 obtain⟨x0,rfl,p0⟩:=r0.int_inv
 obtain⟨u1,g1,r1⟩:=h.at (j:=1) rfl
 obtain⟨x1,rfl,p1⟩:=r1.int_inv
 obtain⟨u2,g2,r2⟩:=h.at (j:=2) rfl
 obtain⟨x2,rfl,p2⟩:=r2.int_inv
 obtain⟨u3,g3,r3⟩:=h.at (j:=3) rfl
 obtain⟨x3,rfl,p3⟩:=r3.int_inv
 obtain⟨u4,g4,r4⟩:=h.at (j:=4) rfl
 obtain⟨x4,rfl,p4⟩:=r4.int_inv
 refine⟨⟨x0,⟨x1,x2,x3,x4⟩⟩,⟨Y6 hl ?_,⟨p0,⟨p1,p2,p3,p4,trivial⟩,trivial⟩⟩⟩
 intro j y hy
 match j,hy with
 | 0,hy=>cases hy;exact g0
 | 1,hy=>cases hy;exact g1
 | 2,hy=>cases hy;exact g2
 | 3,hy=>cases hy;exact g3
 | 4,hy=>cases hy;exact g4
theorem bQ5{w:World}(vs:List Value)(hl:vs.length=3)(h:RdL w [.int,.int,.int] vs):∃ x:aa5,Enc.Rd 0 w vs x:=by
 obtain⟨u0,g0,r0⟩:=h.at (j:=0) rfl
 obtain⟨x0,rfl,p0⟩:=r0.int_inv
 obtain⟨u1,g1,r1⟩:=h.at (j:=1) rfl
 obtain⟨x1,rfl,p1⟩:=r1.int_inv
 obtain⟨u2,g2,r2⟩:=h.at (j:=2) rfl
 obtain⟨x2,rfl,p2⟩:=r2.int_inv
 refine⟨⟨x0,x1,x2⟩,⟨Y6 hl ?_,⟨p0,p1,p2,trivial⟩⟩⟩
 intro j y hy
 match j,hy with
 | 0,hy=>cases hy;exact g0
 | 1,hy=>cases hy;exact g1
 | 2,hy=>cases hy;exact g2
theorem bL5{w:World}(vs:List Value)(hl:vs.length=4)(h:RdL w [.int,.int,.int,.sl [.str]] vs):∃ x:D4,Enc.Rd 0 w vs x:=by
 obtain⟨u0,g0,r0⟩:=h.at (j:=0) rfl
 obtain⟨x0,rfl,p0⟩:=r0.int_inv
 obtain⟨u1,g1,r1⟩:=h.at (j:=1) rfl
 obtain⟨x1,rfl,p1⟩:=r1.int_inv
 obtain⟨u2,g2,r2⟩:=h.at (j:=2) rfl
 obtain⟨x2,rfl,p2⟩:=r2.int_inv
 obtain⟨u3,g3,r3⟩:=h.at (j:=3) rfl
 obtain⟨a3,c3,x3,rfl,p3⟩:=ah1 (α:=ByteArray) (es:=[.str]) rfl aO3 r3
 refine⟨⟨x0,x1,x2,x3⟩,⟨a3,c3,Y6 hl ?_,p3,⟨p0,p1,p2,trivial⟩⟩⟩
 intro j y hy
 match j,hy with
 | 0,hy=>cases hy;exact g0
 | 1,hy=>cases hy;exact g1
 | 2,hy=>cases hy;exact g2
 | 3,hy=>cases hy;exact g3
theorem bE8{w:World}(vs:List Value)(hl:vs.length=4)(h:RdL w [.int,.str,.sl [.int],.bool] vs):∃ x:j7,Enc.Rd 0 w vs x:=by
 obtain⟨u0,g0,r0⟩:=h.at (j:=0) rfl
 obtain⟨x0,rfl,p0⟩:=r0.int_inv
 obtain⟨u1,g1,r1⟩:=h.at (j:=1) rfl
 obtain⟨x1,rfl,p1⟩:=r1.str_inv
 replace p1:x1.size≤9223372036854775807:=by unfold maxLen at p1;omega
 obtain⟨u2,g2,r2⟩:=h.at (j:=2) rfl
 obtain⟨a2,c2,x2,rfl,p2⟩:=ah1 (α:=Int) (es:=[.int]) rfl aO2 r2
 obtain⟨u3,g3,r3⟩:=h.at (j:=3) rfl
 obtain⟨x3,rfl⟩:=r3.bool_inv
 refine⟨⟨x0,x1,x2,x3⟩,⟨a2,c2,Y6 hl ?_,p2,⟨p0,p1,trivial⟩⟩⟩
 intro j y hy
 match j,hy with
 | 0,hy=>cases hy;exact g0
 | 1,hy=>cases hy;exact g1
 | 2,hy=>cases hy;exact g2
 | 3,hy=>cases hy;exact g3
theorem bT1{w:World}(vs:List Value)(hl:vs.length=2)(h:RdL w [.int,.int] vs):∃ x:af2,Enc.Rd 0 w vs x:=by
 obtain⟨u0,g0,r0⟩:=h.at (j:=0) rfl
 obtain⟨x0,rfl,p0⟩:=r0.int_inv
 obtain⟨u1,g1,r1⟩:=h.at (j:=1) rfl
 obtain⟨x1,rfl,p1⟩:=r1.int_inv
 refine⟨⟨x0,x1⟩,⟨Y6 hl ?_,⟨p0,p1,trivial⟩⟩⟩
 intro j y hy
 match j,hy with
 | 0,hy=>cases hy;exact g0
 | 1,hy=>cases hy;exact g1
theorem bT2{w:World}(vs:List Value)(hl:vs.length=2)(h:RdL w [.int,.int] vs):∃ x:ao3,Enc.Rd 0 w vs x:=by
 obtain⟨u0,g0,r0⟩:=h.at (j:=0) rfl
 obtain⟨x0,rfl,p0⟩:=r0.int_inv
 obtain⟨u1,g1,r1⟩:=h.at (j:=1) rfl
 obtain⟨x1,rfl,p1⟩:=r1.int_inv
 refine⟨⟨x0,x1⟩,⟨Y6 hl ?_,⟨p0,p1,trivial⟩⟩⟩
 intro j y hy
 match j,hy with
 | 0,hy=>cases hy;exact g0
 | 1,hy=>cases hy;exact g1
theorem bk4{w:World}(vs:List Value)(hl:vs.length=2)(h:RdL w [.int,.str] vs):∃ x:s6,Enc.Rd 0 w vs x:=by
 obtain⟨u0,g0,r0⟩:=h.at (j:=0) rfl
 obtain⟨x0,rfl,p0⟩:=r0.int_inv
 obtain⟨u1,g1,r1⟩:=h.at (j:=1) rfl
 obtain⟨x1,rfl,p1⟩:=r1.str_inv
 replace p1:x1.size≤9223372036854775807:=by unfold maxLen at p1;omega
 refine⟨⟨x0,x1⟩,⟨Y6 hl ?_,⟨p0,p1,trivial⟩⟩⟩
 intro j y hy
 match j,hy with
 | 0,hy=>cases hy;exact g0
 | 1,hy=>cases hy;exact g1
theorem bE9{w:World}(vs:List Value)(hl:vs.length=61)(h:RdL w [.int,.int,.int,.int,.int,.int,.int,.sl [.int,.int],.int,.int,.int,.int,.int,.int,.sl [.int,.str],.sl [.int,.str],.sl [.str],.int,.int,.sl [.int,.str],.int,.int,.bool,.bool,.int,.int,.bool,.str,.int,.sl [.int,.int],.sl [.int,.int,.int,.str],.sl [.int,.int,.int,.sl [.str]],.sl [.bool],.int,.bool,.bool,.int,.int,.sl [.int],.bool,.sl [.int,.int,.int],.sl [.int,.int,.int,.int,.int],.sl [.int,.int,.int],.int,.sl [.int,.int,.int,.str],.sl [.int],.int,.int,.sl [.int],.int,.int,.str,.sl [.int],.int,.sl [.str],.sl [.int,.str,.sl [.int],.bool],.int,.sl [.int,.int,.int,.str],.sl [.str],.sl [.str],.int] vs):∃ x:f5,Enc.Rd 0 w vs x:=by
 obtain⟨u0,g0,r0⟩:=h.at (j:=0) rfl
 obtain⟨x0,rfl,p0⟩:=r0.int_inv
 obtain⟨u1,g1,r1⟩:=h.at (j:=1) rfl
 obtain⟨x1,rfl,p1⟩:=r1.int_inv
 obtain⟨u2,g2,r2⟩:=h.at (j:=2) rfl
 obtain⟨x2,rfl,p2⟩:=r2.int_inv
 obtain⟨u3,g3,r3⟩:=h.at (j:=3) rfl
 obtain⟨x3,rfl,p3⟩:=r3.int_inv
 obtain⟨u4,g4,r4⟩:=h.at (j:=4) rfl
 obtain⟨x4,rfl,p4⟩:=r4.int_inv
 obtain⟨u5,g5,r5⟩:=h.at (j:=5) rfl
 obtain⟨x5,rfl,p5⟩:=r5.int_inv
 obtain⟨u6,g6,r6⟩:=h.at (j:=6) rfl
 obtain⟨x6,rfl,p6⟩:=r6.int_inv
 obtain⟨u7,g7,r7⟩:=h.at (j:=7) rfl
 obtain⟨a7,c7,x7,rfl,p7⟩:=ah1 (α:=ao3) (es:=[.int,.int]) rfl bT2 r7
 obtain⟨u8,g8,r8⟩:=h.at (j:=8) rfl
 obtain⟨x8,rfl,p8⟩:=r8.int_inv
 obtain⟨u9,g9,r9⟩:=h.at (j:=9) rfl
 obtain⟨x9,rfl,p9⟩:=r9.int_inv
 obtain⟨u10,g10,r10⟩:=h.at (j:=10) rfl
 obtain⟨x10,rfl,p10⟩:=r10.int_inv
 obtain⟨u11,g11,r11⟩:=h.at (j:=11) rfl
 obtain⟨x11,rfl,p11⟩:=r11.int_inv
 obtain⟨u12,g12,r12⟩:=h.at (j:=12) rfl
 obtain⟨x12,rfl,p12⟩:=r12.int_inv
 obtain⟨u13,g13,r13⟩:=h.at (j:=13) rfl
 obtain⟨x13,rfl,p13⟩:=r13.int_inv
 obtain⟨u14,g14,r14⟩:=h.at (j:=14) rfl
 obtain⟨a14,c14,x14,rfl,p14⟩:=ah1 (α:=s6) (es:=[.int,.str]) rfl bk4 r14
 obtain⟨u15,g15,r15⟩:=h.at (j:=15) rfl
 obtain⟨a15,c15,x15,rfl,p15⟩:=ah1 (α:=s6) (es:=[.int,.str]) rfl bk4 r15
 obtain⟨u16,g16,r16⟩:=h.at (j:=16) rfl
 obtain⟨a16,c16,x16,rfl,p16⟩:=ah1 (α:=ByteArray) (es:=[.str]) rfl aO3 r16
 obtain⟨u17,g17,r17⟩:=h.at (j:=17) rfl
 obtain⟨x17,rfl,p17⟩:=r17.int_inv
 obtain⟨u18,g18,r18⟩:=h.at (j:=18) rfl
 obtain⟨x18,rfl,p18⟩:=r18.int_inv
 obtain⟨u19,g19,r19⟩:=h.at (j:=19) rfl
 obtain⟨a19,c19,x19,rfl,p19⟩:=ah1 (α:=Z1) (es:=[.int,.str]) rfl bQ6 r19
 obtain⟨u20,g20,r20⟩:=h.at (j:=20) rfl
 obtain⟨x20,rfl,p20⟩:=r20.int_inv
 obtain⟨u21,g21,r21⟩:=h.at (j:=21) rfl
 obtain⟨x21,rfl,p21⟩:=r21.int_inv
 obtain⟨u22,g22,r22⟩:=h.at (j:=22) rfl
 obtain⟨x22,rfl⟩:=r22.bool_inv
 obtain⟨u23,g23,r23⟩:=h.at (j:=23) rfl
 obtain⟨x23,rfl⟩:=r23.bool_inv
 obtain⟨u24,g24,r24⟩:=h.at (j:=24) rfl
 obtain⟨x24,rfl,p24⟩:=r24.int_inv
 obtain⟨u25,g25,r25⟩:=h.at (j:=25) rfl
 obtain⟨x25,rfl,p25⟩:=r25.int_inv
 obtain⟨u26,g26,r26⟩:=h.at (j:=26) rfl
 obtain⟨x26,rfl⟩:=r26.bool_inv
 obtain⟨u27,g27,r27⟩:=h.at (j:=27) rfl
 obtain⟨x27,rfl,p27⟩:=r27.str_inv
 replace p27:x27.size≤9223372036854775807:=by unfold maxLen at p27;omega
 obtain⟨u28,g28,r28⟩:=h.at (j:=28) rfl
 obtain⟨x28,rfl,p28⟩:=r28.int_inv
 obtain⟨u29,g29,r29⟩:=h.at (j:=29) rfl
 obtain⟨a29,c29,x29,rfl,p29⟩:=ah1 (α:=af2) (es:=[.int,.int]) rfl bT1 r29
 obtain⟨u30,g30,r30⟩:=h.at (j:=30) rfl
 obtain⟨a30,c30,x30,rfl,p30⟩:=ah1 (α:=B4) (es:=[.int,.int,.int,.str]) rfl aQ4 r30
 obtain⟨u31,g31,r31⟩:=h.at (j:=31) rfl
 obtain⟨a31,c31,x31,rfl,p31⟩:=ah1 (α:=D4) (es:=[.int,.int,.int,.sl [.str]]) rfl bL5 r31
 obtain⟨u32,g32,r32⟩:=h.at (j:=32) rfl
 obtain⟨a32,c32,x32,rfl,p32⟩:=ah1 (α:=Bool) (es:=[.bool]) rfl bO1 r32
 obtain⟨u33,g33,r33⟩:=h.at (j:=33) rfl
 obtain⟨x33,rfl,p33⟩:=r33.int_inv
 obtain⟨u34,g34,r34⟩:=h.at (j:=34) rfl
 obtain⟨x34,rfl⟩:=r34.bool_inv
 obtain⟨u35,g35,r35⟩:=h.at (j:=35) rfl
 obtain⟨x35,rfl⟩:=r35.bool_inv
 obtain⟨u36,g36,r36⟩:=h.at (j:=36) rfl
 obtain⟨x36,rfl,p36⟩:=r36.int_inv
 obtain⟨u37,g37,r37⟩:=h.at (j:=37) rfl
 obtain⟨x37,rfl,p37⟩:=r37.int_inv
 obtain⟨u38,g38,r38⟩:=h.at (j:=38) rfl
 obtain⟨a38,c38,x38,rfl,p38⟩:=ah1 (α:=Int) (es:=[.int]) rfl aO2 r38
 obtain⟨u39,g39,r39⟩:=h.at (j:=39) rfl
 obtain⟨x39,rfl⟩:=r39.bool_inv
 obtain⟨u40,g40,r40⟩:=h.at (j:=40) rfl
 obtain⟨a40,c40,x40,rfl,p40⟩:=ah1 (α:=V3) (es:=[.int,.int,.int]) rfl bN7 r40
 obtain⟨u41,g41,r41⟩:=h.at (j:=41) rfl
 obtain⟨a41,c41,x41,rfl,p41⟩:=ah1 (α:=A4) (es:=[.int,.int,.int,.int,.int]) rfl bF0 r41
 obtain⟨u42,g42,r42⟩:=h.at (j:=42) rfl
 obtain⟨a42,c42,x42,rfl,p42⟩:=ah1 (α:=aa5) (es:=[.int,.int,.int]) rfl bQ5 r42
 obtain⟨u43,g43,r43⟩:=h.at (j:=43) rfl
 obtain⟨x43,rfl,p43⟩:=r43.int_inv
 obtain⟨u44,g44,r44⟩:=h.at (j:=44) rfl
 obtain⟨a44,c44,x44,rfl,p44⟩:=ah1 (α:=B4) (es:=[.int,.int,.int,.str]) rfl aQ4 r44
 obtain⟨u45,g45,r45⟩:=h.at (j:=45) rfl
 obtain⟨a45,c45,x45,rfl,p45⟩:=ah1 (α:=Int) (es:=[.int]) rfl aO2 r45
 obtain⟨u46,g46,r46⟩:=h.at (j:=46) rfl
 obtain⟨x46,rfl,p46⟩:=r46.int_inv
 obtain⟨u47,g47,r47⟩:=h.at (j:=47) rfl
 obtain⟨x47,rfl,p47⟩:=r47.int_inv
 obtain⟨u48,g48,r48⟩:=h.at (j:=48) rfl
 obtain⟨a48,c48,x48,rfl,p48⟩:=ah1 (α:=Int) (es:=[.int]) rfl aO2 r48
 obtain⟨u49,g49,r49⟩:=h.at (j:=49) rfl
 obtain⟨x49,rfl,p49⟩:=r49.int_inv
 obtain⟨u50,g50,r50⟩:=h.at (j:=50) rfl
 obtain⟨x50,rfl,p50⟩:=r50.int_inv
 obtain⟨u51,g51,r51⟩:=h.at (j:=51) rfl
 obtain⟨x51,rfl,p51⟩:=r51.str_inv
 replace p51:x51.size≤9223372036854775807:=by unfold maxLen at p51;omega
 obtain⟨u52,g52,r52⟩:=h.at (j:=52) rfl
 obtain⟨a52,c52,x52,rfl,p52⟩:=ah1 (α:=Int) (es:=[.int]) rfl aO2 r52
 obtain⟨u53,g53,r53⟩:=h.at (j:=53) rfl
 obtain⟨x53,rfl,p53⟩:=r53.int_inv
 obtain⟨u54,g54,r54⟩:=h.at (j:=54) rfl
 obtain⟨a54,c54,x54,rfl,p54⟩:=ah1 (α:=ByteArray) (es:=[.str]) rfl aO3 r54
 obtain⟨u55,g55,r55⟩:=h.at (j:=55) rfl
 obtain⟨a55,c55,x55,rfl,p55⟩:=ah1 (α:=j7) (es:=[.int,.str,.sl [.int],.bool]) rfl bE8 r55
 obtain⟨u56,g56,r56⟩:=h.at (j:=56) rfl
 obtain⟨x56,rfl,p56⟩:=r56.int_inv
 obtain⟨u57,g57,r57⟩:=h.at (j:=57) rfl
 obtain⟨a57,c57,x57,rfl,p57⟩:=ah1 (α:=B4) (es:=[.int,.int,.int,.str]) rfl aQ4 r57
 obtain⟨u58,g58,r58⟩:=h.at (j:=58) rfl
 obtain⟨a58,c58,x58,rfl,p58⟩:=ah1 (α:=ByteArray) (es:=[.str]) rfl aO3 r58
 obtain⟨u59,g59,r59⟩:=h.at (j:=59) rfl
 obtain⟨a59,c59,x59,rfl,p59⟩:=ah1 (α:=ByteArray) (es:=[.str]) rfl aO3 r59
 obtain⟨u60,g60,r60⟩:=h.at (j:=60) rfl
 obtain⟨x60,rfl,p60⟩:=r60.int_inv
 refine⟨⟨x0,x1,⟨x2,x3⟩,⟨x4,x5,x6⟩,x7,⟨x8,x9,x10⟩,⟨x11,x12,x13⟩,x14,x15,⟨x16,⟨x17,x18,x19,x20⟩,⟨x21,x22,x23⟩,⟨x24,x25,x26,x27,x28⟩,x29,x30,x31,x32⟩,⟨⟨x33,x34,x35,x36⟩,⟨x37,x38,x39,x40,x41,x42,⟨x43,x44,x45⟩,x46,x47,x48⟩,⟨x49,x50,x51,x52⟩,x53,x54,x55,x56,x57⟩,x58,x59,x60⟩,⟨⟨a7,c7,a14,c14,a15,c15,a16,c16,a19,c19,a29,c29,a30,c30,a31,c31,a32,c32,a38,c38,a40,c40,a41,c41,a42,c42,a44,c44,a45,c45,a48,c48,a52,c52,a54,c54,a55,c55,a57,c57,a58,c58,a59,c59⟩,Y6 hl ?_,⟨p7,p14,p15,p16,p19,p29,p30,p31,p32,p38,p40,p41,p42,p44,p45,p48,p52,p54,p55,p57,p58,p59,⟨p0,p1,⟨p2,p3,trivial⟩,⟨p4,p5,p6,trivial⟩,⟨p8,p9,p10,trivial⟩,⟨p11,p12,p13,trivial⟩,⟨⟨p17,p18,p20,trivial⟩,⟨p21,trivial⟩,⟨p24,p25,p27,p28,trivial⟩,trivial⟩,⟨⟨p33,p36,trivial⟩,⟨p37,⟨p43,trivial⟩,p46,p47,trivial⟩,⟨p49,p50,p51,trivial⟩,p53,p56,trivial⟩,p60,trivial⟩⟩⟩⟩
 intro j y hy
 match j,hy with
 | 0,hy=>cases hy;exact g0
 | 1,hy=>cases hy;exact g1
 | 2,hy=>cases hy;exact g2
 | 3,hy=>cases hy;exact g3
 | 4,hy=>cases hy;exact g4
 | 5,hy=>cases hy;exact g5
 | 6,hy=>cases hy;exact g6
 | 7,hy=>cases hy;exact g7
 | 8,hy=>cases hy;exact g8
 | 9,hy=>cases hy;exact g9
 | 10,hy=>cases hy;exact g10
 | 11,hy=>cases hy;exact g11
 | 12,hy=>cases hy;exact g12
 | 13,hy=>cases hy;exact g13
 | 14,hy=>cases hy;exact g14
 | 15,hy=>cases hy;exact g15
 | 16,hy=>cases hy;exact g16
 | 17,hy=>cases hy;exact g17
 | 18,hy=>cases hy;exact g18
 | 19,hy=>cases hy;exact g19
 | 20,hy=>cases hy;exact g20
 | 21,hy=>cases hy;exact g21
 | 22,hy=>cases hy;exact g22
 | 23,hy=>cases hy;exact g23
 | 24,hy=>cases hy;exact g24
 | 25,hy=>cases hy;exact g25
 | 26,hy=>cases hy;exact g26
 | 27,hy=>cases hy;exact g27
 | 28,hy=>cases hy;exact g28
 | 29,hy=>cases hy;exact g29
 | 30,hy=>cases hy;exact g30
 | 31,hy=>cases hy;exact g31
 | 32,hy=>cases hy;exact g32
 | 33,hy=>cases hy;exact g33
 | 34,hy=>cases hy;exact g34
 | 35,hy=>cases hy;exact g35
 | 36,hy=>cases hy;exact g36
 | 37,hy=>cases hy;exact g37
 | 38,hy=>cases hy;exact g38
 | 39,hy=>cases hy;exact g39
 | 40,hy=>cases hy;exact g40
 | 41,hy=>cases hy;exact g41
 | 42,hy=>cases hy;exact g42
 | 43,hy=>cases hy;exact g43
 | 44,hy=>cases hy;exact g44
 | 45,hy=>cases hy;exact g45
 | 46,hy=>cases hy;exact g46
 | 47,hy=>cases hy;exact g47
 | 48,hy=>cases hy;exact g48
 | 49,hy=>cases hy;exact g49
 | 50,hy=>cases hy;exact g50
 | 51,hy=>cases hy;exact g51
 | 52,hy=>cases hy;exact g52
 | 53,hy=>cases hy;exact g53
 | 54,hy=>cases hy;exact g54
 | 55,hy=>cases hy;exact g55
 | 56,hy=>cases hy;exact g56
 | 57,hy=>cases hy;exact g57
 | 58,hy=>cases hy;exact g58
 | 59,hy=>cases hy;exact g59
 | 60,hy=>cases hy;exact g60
