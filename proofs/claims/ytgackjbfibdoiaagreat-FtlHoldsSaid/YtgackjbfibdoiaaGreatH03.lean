import Derived.Test.YtgackjbfibdoiaaGreatH02
set_option linter.all false
set_option maxRecDepth 1000000
set_option maxHeartbeats 0
set_option linter.unusedSimpArgs false
set_option linter.unusedSectionVars false
noncomputable section
namespace Go.Ev
abbrev AN(n:Nat):AV:= .int .i64 (n:Int)
abbrev UN(n:Nat):AV:= .int .u64 (n:Int)
abbrev Zi:AV:= .int .i64 ((0:Nat):Int)
abbrev Zu:AV:= .int .u64 ((0:Nat):Int)
abbrev Zy:AV:= .int .u8 ((0:Nat):Int)
open Go.Proofs
abbrev Cz(n:Nat):O:= .c (.int .i64 (n:Int))
abbrev Cv(d x:Nat):CI:=⟨some d,none,.mv (.t x)⟩
abbrev Ce(d x o:Nat):CI:=⟨some d,none,.extract (.t x) o⟩
abbrev afp(d:Nat)(op:BinOp)(x y:Nat):CI:=⟨some d,none,.bin op (.t x) (.t y) false .QB⟩
abbrev afq(d:Nat)(op:BinOp)(x n:Nat):CI:=⟨some d,none,.bin op (.t x) (Cz n) true .QB⟩
abbrev afr(d n:Nat):CI:=⟨some d,none,.mv (Cz n)⟩
abbrev Cs(n x y:Nat):CI:=⟨none,none,.store n (.t x) (.t y)⟩
abbrev Cj(d:Nat)(op:RY):CI:=⟨some d,none,op⟩
abbrev Cc(d f:Nat)(a:List O):CI:=⟨some d,none,.LY (.c (.fn (.func f) [] [])) a⟩
abbrev Av1(f:Func):Option DY:=match f.body with|some b=>some (Xn EE f b)|none=>none
abbrev nf(f:Func){c:DY}(h:Av1 f=some c:=by conv=>lhs;reduce;dsimp only[Int.ofNat_eq_natCast]):DY:=c
abbrev nc(b:CC){c:CC}(h:b=c:=by conv=>lhs;reduce;dsimp only[Int.ofNat_eq_natCast]):CC:=c
def JR:=nf Tryz.f3
def xC:=nc (BW JR.body [4,0])
def Aop:=nc (BW JR.body [7,0,1,0])
def rB:=nc (BW JR.body [8,0,0])
def xD:=nc (BW JR.body [8,0,1])
def Aoq:=nc (BW JR.body [11,0,1,0,0,1,0,0,1,0,1,0])
def xE:=nc (BW JR.body [11,0,1,0,0,1,0,0,4,0,0,0])
def Aor:=nc (BW JR.body [11,0,1,0,0,1,0,0,4,0,0,1])
def cy:=nc (BW JR.body [11,0,1,0,0,1,0,0,5])
def Akh:=nc (BW JR.body [11,0,1,0,0,1,0,0,3])
def Aki:=nc (BW JR.body [11,0,1,0,0,1,0,0,2])
def Sj:=nc (BW JR.body [11,0,1,0,0,2])
def O1:=nc (BW JR.body [11,0,1,0,0])
def Akj:=nc (BW JR.body [11,0,1,0])
def Akk:=nc (BW JR.body [12])
def vh:=nc (BW JR.body [9])
def Akl:=nc (BW JR.body [8])
def Akm:=nc (BW JR.body [5])
def cf8:=nf Tryz.f8
def cf9:=nf Tryz.f9
def Av2:=nf Tryz.f11
def Av3:=nf Tryz.f12
def Zq:=nf Tryz.f13
def Akn:=nc (BW Zq.body [2,0,1,0,0,1,0,0,1,0,1,0])
def Ako:=nc (BW Zq.body [2,0,1,0,0,1,0,0,2])
def vi:=nc (BW Zq.body [2,0,1,0,0,2])
def Wn:=nc (BW Zq.body [2,0,1,0,0])
def Av4:=nf Tryz.f14
def Av5:=nf Tryz.f15
def Av6:=nf Tryz.f16
def Av7:=nf Tryz.f17
def Av8:=nf Tryz.f18
def Av9:=nf Tryz.f19
def Awa:=nf Tryz.f20
def Awb:=nf Tryz.f21
def Awc:=nf Tryz.f22
def Awd:=nf Tryz.f23
def Awe:=nf Tryz.f27
def Awf:=nf Tryz.f30
def Awg:=nf Tryz.f33
def Awh:=nf Tryz.f34
def oD:=nf Tryz.f35
def Akp:=nc (BW oD.body [4,0,1,0,0])
def Akq:=nc (BW oD.body [5])
def Awi:=nf Tryz.f36
def Awj:=nf Tryz.f37
def Awk:=nf Tryz.f39
def Awl:=nf Tryz.f40
def Awm:=nf Tryz.f41
def Awn:=nf Tryz.f42
def Awo:=nf Tryz.f43
def Awp:=nf Tryz.f44
def Awq:=nf Tryz.f45
def Awr:=nf Tryz.f46
def Aws:=nf Tryz.f47
def Awt:=nf Tryz.f48
def Awu:=nf Tryz.f49
def Awv:=nf Tryz.f50
def Aww:=nf Tryz.f51
def Awx:=nf Tryz.f52
def gI:=nf Tryz.f53
def Aos:=nc (BW gI.body [1,0,1,0,0])
def Aot:=nc (BW gI.body [1,0,1,0,1])
def Akr:=nc (BW gI.body [2])
def Awy:=nf Tryz.f54
def Awz:=nf Tryz.f55
def Aw0:=nf Tryz.f56
def oE:=nf Tryz.f57
def Aou:=nc (BW oE.body [1,0,1,0,0])
def Aov:=nc (BW oE.body [1,0,1,0,1])
def Aw1:=nf Tryz.f58
def Aw2:=nf Tryz.f59
def Aw3:=nf Tryz.f60
def Aw4:=nf Tryz.f61
def Aw5:=nf Tryz.f62
def Aw6:=nf Tryz.f70
def Aw7:=nf Tryz.f80
def Aw8:=nf Tryz.f81
def Aw9:=nf Tryz.f82
def Axa:=nf Tryz.f83
def Axb:=nf Tryz.f84
def Axc:=nf Tryz.f85
def Axd:=nf Tryz.f86
def Axe:=nf Tryz.f87
def Axf:=nf Tryz.f89
def abf:=nf Tryz.f90
def Axg:=nf Tryz.f91
def Axh:=nf Tryz.f92
def Axi:=nf Tryz.f93
def Axj:=nf Tryz.f94
def Axk:=nf Tryz.f95
def Axl:=nf Tryz.f96
def Axm:=nf Tryz.f97
def Axn:=nf Tryz.f98
def Axo:=nf Tryz.f99
def Aow:=nf Tryz.f100
def VJ:=nf Tryz.f101
def Aek:=nc (BW VJ.body [9,0,1,0,0])
def Ael:=nc (BW VJ.body [9,0,1,0])
def Aem:=nc (BW VJ.body [16,0,1,0,0])
def Aen:=nc (BW VJ.body [16,0,1,0])
def Aeo:=nc (BW VJ.body [17,0,1,0,0])
def Aep:=nc (BW VJ.body [17,0,1,0])
def Aeq:=nc (BW VJ.body [18])
def Aer:=nc (BW VJ.body [17])
def Aes:=nc (BW VJ.body [10])
def Aox:=nf Tryz.f102
def kF:=nf Tryz.f103
def Avb:=nc (BW kF.body [2,0,1,0,0,1,0,0,2,0])
def Avc:=nc (BW kF.body [2,0,1,0,0,2])
def Avd:=nc (BW kF.body [2,0,1,0,0])
def Ave:=nc (BW kF.body [3])
def Aoy:=nf Tryz.f105
def Aoz:=nf Tryz.f107
def Ao0:=nf Tryz.f108
def Ao1:=nf Tryz.f109
def Ao2:=nf Tryz.f115
def Ao3:=nf Tryz.f116
def Ao4:=nf Tryz.f117
def Ao5:=nf Tryz.f118
def Ao6:=nf Tryz.f119
def dF:=nf Tryz.f120
def Aet:=nc (BW dF.body [0,2,0,0,0,5,0,3])
def Aeu:=nc (BW dF.body [0,2,0,0,0,4])
def acw:=nc (BW dF.body [0,2,0,0])
def acx:=nc (BW dF.body [0])
def Ao7:=nf Tryz.f121
def Ao8:=nf Tryz.f122
def Ao9:=nf Tryz.f123
def Apa:=nf Tryz.f124
def Apb:=nf Tryz.f125
def Apc:=nf Tryz.f126
def Apd:=nf Tryz.f127
def Ape:=nf Tryz.f128
def Apf:=nf Tryz.f129
def Apg:=nf Tryz.f130
def Aph:=nf Tryz.f131
def Api:=nf Tryz.f132
def Apj:=nf Tryz.f133
def kG:=nf Tryz.f134
def Aev:=nc (BW kG.body [2,0,1,0,0])
def Aew:=nc (BW kG.body [2,0,1,0])
def Aex:=nc (BW kG.body [3])
def Apk:=nf Tryz.f135
def o0:=nf Tryz.f136
def Aks:=nc (BW o0.body [1,0,1,0,0])
def Akt:=nc (BW o0.body [1,0,1,0,1])
def Apl:=nf Tryz.f137
def Apm:=nf Tryz.f138
def Sd:=nf Tryz.f139
def Aku:=nc (BW Sd.body [2,0,1,0,0])
def Akv:=nc (BW Sd.body [2,0,1,0,1])
def Aey:=nc (BW Sd.body [6,0,1,0,0])
def Aez:=nc (BW Sd.body [6,0,1,0])
def Ae0:=nc (BW Sd.body [7,0,1,0,0])
def Ae1:=nc (BW Sd.body [8,0,1,0,0])
def Ae2:=nc (BW Sd.body [8,0,1,0,1])
def Ae3:=nc (BW Sd.body [8,0,1])
def Ae4:=nc (BW Sd.body [9])
def Ae5:=nc (BW Sd.body [7])
def Apn:=nf Tryz.f140
def Apo:=nf Tryz.f141
def App:=nf Tryz.f142
def Apq:=nf Tryz.f145
def Apr:=nf Tryz.f146
def Aps:=nf Tryz.f147
def Apt:=nf Tryz.f148
def Apu:=nf Tryz.f149
def Apv:=nf Tryz.f150
def Apw:=nf Tryz.f151
def o6:=nf Tryz.f152
def Akw:=nc (BW o6.body [2,0,1,0,0])
def Ae6:=nc (BW o6.body [2,0,1,0,1])
def Apx:=nf Tryz.f153
def Apy:=nf Tryz.f154
def Apz:=nf Tryz.f155
def Ap0:=nf Tryz.f156
def Ap1:=nf Tryz.f157
def Ap2:=nf Tryz.f158
def Ap3:=nf Tryz.f159
def Ap4:=nf Tryz.f160
def Zr:=nf Tryz.f161
def Ae7:=nc (BW Zr.body [1,0,1,0,1,0])
def Ae8:=nc (BW Zr.body [1,0,8,0,0,0])
def Ae9:=nc (BW Zr.body [1,0,8,0,0])
def Afa:=nc (BW Zr.body [1,0,9])
def Afb:=nc (BW Zr.body [1,0,2])
def acy:=nc (BW Zr.body [1,0])
def Ap5:=nf Tryz.f162
def Ap6:=nf Tryz.f163
def Ap7:=nf Tryz.f164
def kH:=nf Tryz.f165
def Wo:=nc (BW kH.body [1,0,1,0,0])
def jp:=nc (BW kH.body [2])
def Ap8:=nf Tryz.f166
def Ap9:=nf Tryz.f167
def Aqa:=nf Tryz.f168
def Aqb:=nf Tryz.f169
def Aqc:=nf Tryz.f170
def Aqd:=nf Tryz.f171
def Aqe:=nf Tryz.f172
def Aqf:=nf Tryz.f173
def o7:=nf Tryz.f174
def Akx:=nc (BW o7.body [2,0,0])
def Aky:=nc (BW o7.body [2,0,1])
def Aqg:=nf Tryz.f175
def o8:=nf Tryz.f176
def Akz:=nc (BW o8.body [5,0,1,0,0])
def Afc:=nc (BW o8.body [5,0,1,0,1])
def Aqh:=nf Tryz.f177
def Aqi:=nf Tryz.f178
def Aqj:=nf Tryz.f179
def Aqk:=nf Tryz.f180
def Aql:=nf Tryz.f181
def Aqm:=nf Tryz.f182
def Aqn:=nf Tryz.f183
def Aqo:=nf Tryz.f184
def Aqp:=nf Tryz.f185
def dG:=nf Tryz.f186
def Afd:=nc (BW dG.body [3,0,0,0,1,0,1,0,1])
def Afe:=nc (BW dG.body [3,0,0,0,4])
def Aff:=nc (BW dG.body [3,0,0,0,2])
def ac0:=nc (BW dG.body [3,0,0])
def Aqq:=nf Tryz.f187
def Aqr:=nf Tryz.f188
def Aqs:=nf Tryz.f189
def Aqt:=nf Tryz.f190
def Aqu:=nf Tryz.f191
def Aqv:=nf Tryz.f192
def Aqw:=nf Tryz.f193
def Aqx:=nf Tryz.f194
def Aqy:=nf Tryz.f195
def Aqz:=nf Tryz.f196
def Aq0:=nf Tryz.f197
def Aq1:=nf Tryz.f198
def Aq2:=nf Tryz.f199
def Aq3:=nf Tryz.f200
def Aq4:=nf Tryz.f201
def Aq5:=nf Tryz.f202
def Aq6:=nf Tryz.f203
def Aq7:=nf Tryz.f204
def Aq8:=nf Tryz.f205
def Aq9:=nf Tryz.f206
def o9:=nf Tryz.f207
def Afg:=nc (BW o9.body [1,0,1,0,0])
def Afh:=nc (BW o9.body [2])
def Ara:=nf Tryz.f209
def Arb:=nf Tryz.f210
def Arc:=nf Tryz.f211
def Ard:=nf Tryz.f212
def Are:=nf Tryz.f213
def Arf:=nf Tryz.f214
def Arg:=nf Tryz.f215
def Arh:=nf Tryz.f216
def Ari:=nf Tryz.f217
def Arj:=nf Tryz.f218
def Ark:=nf Tryz.f219
def Arl:=nf Tryz.f220
def Arm:=nf Tryz.f221
def Arn:=nf Tryz.f222
def Aro:=nf Tryz.f223
def Arp:=nf Tryz.f224
def Arq:=nf Tryz.f225
def dH:=nf Tryz.f226
def Afi:=nc (BW dH.body [5,0,1,0,0,3])
def Wp:=nc (BW dH.body [5,0,1,0,0])
def Wq:=nc (BW dH.body [6])
def Arr:=nf Tryz.f227
def abe:=nf Tryz.f228
def Ars:=nf Tryz.f229
def Art:=nf Tryz.f230
def oA:=nf Tryz.f231
def ac1:=nc (BW oA.body [2])
def Aru:=nf Tryz.f232
def Arv:=nf Tryz.f233
def Arw:=nf Tryz.f234
def Arx:=nf Tryz.f235
def Ary:=nf Tryz.f236
def Arz:=nf Tryz.f237
def Ar0:=nf Tryz.f238
def Ar1:=nf Tryz.f239
def Ar2:=nf Tryz.f240
def Ar3:=nf Tryz.f241
def Ar4:=nf Tryz.f242
def Ar5:=nf Tryz.f243
def Ar6:=nf Tryz.f244
def Ar7:=nf Tryz.f245
def Ar8:=nf Tryz.f248
def Ar9:=nf Tryz.f249
def Asa:=nf Tryz.f250
def Asb:=nf Tryz.f251
def Asc:=nf Tryz.f252
def Asd:=nf Tryz.f253
def Ase:=nf Tryz.f254
def Asf:=nf Tryz.f255
def Asg:=nf Tryz.f256
def Ash:=nf Tryz.f257
def Asi:=nf Tryz.f258
def Asj:=nf Tryz.f259
def Ask:=nf Tryz.f260
def Asl:=nf Tryz.f261
def Asm:=nf Tryz.f262
def Asn:=nf Tryz.f263
def oB:=nf Tryz.f264
def Ak0:=nc (BW oB.body [2,0,1,0,0])
def Afj:=nc (BW oB.body [2,0,1,0,1])
def Aso:=nf Tryz.f265
def Asp:=nf Tryz.f266
def Asq:=nf Tryz.f267
def Asr:=nf Tryz.f268
def Ass:=nf Tryz.f269
def Ast:=nf Tryz.f270
def Asu:=nf Tryz.f282
def Asv:=nf Tryz.f283
def Asw:=nf Tryz.f284
def Asx:=nf Tryz.f285
def kI:=nf Tryz.f286
def vj:=nc (BW kI.body [1,0,1,0,0])
def vk:=nc (BW kI.body [1,0,1,0,1])
def Asy:=nf Tryz.f287
def Asz:=nf Tryz.f288
def As0:=nf Tryz.f289
def As1:=nf Tryz.f290
def As2:=nf Tryz.f291
def As3:=nf Tryz.f293
def As4:=nf Tryz.f294
def As5:=nf Tryz.f295
def As6:=nf Tryz.f296
def As7:=nf Tryz.f297
def As8:=nf Tryz.f303
def oC:=nf Tryz.f304
def Afk:=nc (BW oC.body [3,0,1,0,0])
def Afl:=nc (BW oC.body [4])
def As9:=nf Tryz.f306
def Ata:=nf Tryz.f307
def Atb:=nf Tryz.f311
def Atc:=nf Tryz.f312
class Fx (F:T DY)(K:HK):Prop where
 f3:Fk F K 3 JR
 f8:Fk F K 8 cf8
 f9:Fk F K 9 cf9
 f11:Fk F K 11 Av2
 f12:Fk F K 12 Av3
 f13:Fk F K 13 Zq
 f14:Fk F K 14 Av4
 f15:Fk F K 15 Av5
 f16:Fk F K 16 Av6
 f17:Fk F K 17 Av7
 f18:Fk F K 18 Av8
 f19:Fk F K 19 Av9
 f20:Fk F K 20 Awa
 f21:Fk F K 21 Awb
 f22:Fk F K 22 Awc
 f23:Fk F K 23 Awd
 f27:Fk F K 27 Awe
 f30:Fk F K 30 Awf
 f33:Fk F K 33 Awg
 f34:Fk F K 34 Awh
 f35:Fk F K 35 oD
 f36:Fk F K 36 Awi
 f37:Fk F K 37 Awj
 f39:Fk F K 39 Awk
 f40:Fk F K 40 Awl
 f41:Fk F K 41 Awm
 f42:Fk F K 42 Awn
 f43:Fk F K 43 Awo
 f44:Fk F K 44 Awp
 f45:Fk F K 45 Awq
 f46:Fk F K 46 Awr
 f47:Fk F K 47 Aws
 f48:Fk F K 48 Awt
 f49:Fk F K 49 Awu
 f50:Fk F K 50 Awv
 f51:Fk F K 51 Aww
 f52:Fk F K 52 Awx
 f53:Fk F K 53 gI
 f54:Fk F K 54 Awy
 f55:Fk F K 55 Awz
 f56:Fk F K 56 Aw0
 f57:Fk F K 57 oE
 f58:Fk F K 58 Aw1
 f59:Fk F K 59 Aw2
 f60:Fk F K 60 Aw3
 f61:Fk F K 61 Aw4
 f62:Fk F K 62 Aw5
 f70:Fk F K 70 Aw6
 f80:Fk F K 80 Aw7
 f81:Fk F K 81 Aw8
 f82:Fk F K 82 Aw9
 f83:Fk F K 83 Axa
 f84:Fk F K 84 Axb
 f85:Fk F K 85 Axc
 f86:Fk F K 86 Axd
 f87:Fk F K 87 Axe
 f89:Fk F K 89 Axf
 f90:Fk F K 90 abf
 f91:Fk F K 91 Axg
 f92:Fk F K 92 Axh
 f93:Fk F K 93 Axi
 f94:Fk F K 94 Axj
 f95:Fk F K 95 Axk
 f96:Fk F K 96 Axl
 f97:Fk F K 97 Axm
 f98:Fk F K 98 Axn
 f99:Fk F K 99 Axo
 f100:Fk F K 100 Aow
 f101:Fk F K 101 VJ
 f102:Fk F K 102 Aox
 f103:Fk F K 103 kF
 f105:Fk F K 105 Aoy
 f107:Fk F K 107 Aoz
 f108:Fk F K 108 Ao0
 f109:Fk F K 109 Ao1
 f115:Fk F K 115 Ao2
 f116:Fk F K 116 Ao3
 f117:Fk F K 117 Ao4
 f118:Fk F K 118 Ao5
 f119:Fk F K 119 Ao6
 f120:Fk F K 120 dF
 f121:Fk F K 121 Ao7
 f122:Fk F K 122 Ao8
 f123:Fk F K 123 Ao9
 f124:Fk F K 124 Apa
 f125:Fk F K 125 Apb
 f126:Fk F K 126 Apc
 f127:Fk F K 127 Apd
 f128:Fk F K 128 Ape
 f129:Fk F K 129 Apf
 f130:Fk F K 130 Apg
 f131:Fk F K 131 Aph
 f132:Fk F K 132 Api
 f133:Fk F K 133 Apj
 f134:Fk F K 134 kG
 f135:Fk F K 135 Apk
 f136:Fk F K 136 o0
 f137:Fk F K 137 Apl
 f138:Fk F K 138 Apm
 f139:Fk F K 139 Sd
 f140:Fk F K 140 Apn
 f141:Fk F K 141 Apo
 f142:Fk F K 142 App
 f145:Fk F K 145 Apq
 f146:Fk F K 146 Apr
 f147:Fk F K 147 Aps
 f148:Fk F K 148 Apt
 f149:Fk F K 149 Apu
 f150:Fk F K 150 Apv
 f151:Fk F K 151 Apw
 f152:Fk F K 152 o6
 f153:Fk F K 153 Apx
 f154:Fk F K 154 Apy
 f155:Fk F K 155 Apz
 f156:Fk F K 156 Ap0
 f157:Fk F K 157 Ap1
 f158:Fk F K 158 Ap2
 f159:Fk F K 159 Ap3
 f160:Fk F K 160 Ap4
 f161:Fk F K 161 Zr
 f162:Fk F K 162 Ap5
 f163:Fk F K 163 Ap6
 f164:Fk F K 164 Ap7
 f165:Fk F K 165 kH
 f166:Fk F K 166 Ap8
 f167:Fk F K 167 Ap9
 f168:Fk F K 168 Aqa
 f169:Fk F K 169 Aqb
 f170:Fk F K 170 Aqc
 f171:Fk F K 171 Aqd
 f172:Fk F K 172 Aqe
 f173:Fk F K 173 Aqf
 f174:Fk F K 174 o7
 f175:Fk F K 175 Aqg
 f176:Fk F K 176 o8
 f177:Fk F K 177 Aqh
 f178:Fk F K 178 Aqi
 f179:Fk F K 179 Aqj
 f180:Fk F K 180 Aqk
 f181:Fk F K 181 Aql
 f182:Fk F K 182 Aqm
 f183:Fk F K 183 Aqn
 f184:Fk F K 184 Aqo
 f185:Fk F K 185 Aqp
 f186:Fk F K 186 dG
 f187:Fk F K 187 Aqq
 f188:Fk F K 188 Aqr
 f189:Fk F K 189 Aqs
 f190:Fk F K 190 Aqt
 f191:Fk F K 191 Aqu
 f192:Fk F K 192 Aqv
 f193:Fk F K 193 Aqw
 f194:Fk F K 194 Aqx
 f195:Fk F K 195 Aqy
 f196:Fk F K 196 Aqz
 f197:Fk F K 197 Aq0
 f198:Fk F K 198 Aq1
 f199:Fk F K 199 Aq2
 f200:Fk F K 200 Aq3
 f201:Fk F K 201 Aq4
 f202:Fk F K 202 Aq5
 f203:Fk F K 203 Aq6
 f204:Fk F K 204 Aq7
 f205:Fk F K 205 Aq8
 f206:Fk F K 206 Aq9
 f207:Fk F K 207 o9
 f209:Fk F K 209 Ara
 f210:Fk F K 210 Arb
 f211:Fk F K 211 Arc
 f212:Fk F K 212 Ard
 f213:Fk F K 213 Are
 f214:Fk F K 214 Arf
 f215:Fk F K 215 Arg
 f216:Fk F K 216 Arh
 f217:Fk F K 217 Ari
 f218:Fk F K 218 Arj
 f219:Fk F K 219 Ark
 f220:Fk F K 220 Arl
 f221:Fk F K 221 Arm
 f222:Fk F K 222 Arn
 f223:Fk F K 223 Aro
 f224:Fk F K 224 Arp
 f225:Fk F K 225 Arq
 f226:Fk F K 226 dH
 f227:Fk F K 227 Arr
 f228:Fk F K 228 abe
 f229:Fk F K 229 Ars
 f230:Fk F K 230 Art
 f231:Fk F K 231 oA
 f232:Fk F K 232 Aru
 f233:Fk F K 233 Arv
 f234:Fk F K 234 Arw
 f235:Fk F K 235 Arx
 f236:Fk F K 236 Ary
 f237:Fk F K 237 Arz
 f238:Fk F K 238 Ar0
 f239:Fk F K 239 Ar1
 f240:Fk F K 240 Ar2
 f241:Fk F K 241 Ar3
 f242:Fk F K 242 Ar4
 f243:Fk F K 243 Ar5
 f244:Fk F K 244 Ar6
 f245:Fk F K 245 Ar7
 f248:Fk F K 248 Ar8
 f249:Fk F K 249 Ar9
 f250:Fk F K 250 Asa
 f251:Fk F K 251 Asb
 f252:Fk F K 252 Asc
 f253:Fk F K 253 Asd
 f254:Fk F K 254 Ase
 f255:Fk F K 255 Asf
 f256:Fk F K 256 Asg
 f257:Fk F K 257 Ash
 f258:Fk F K 258 Asi
 f259:Fk F K 259 Asj
 f260:Fk F K 260 Ask
 f261:Fk F K 261 Asl
 f262:Fk F K 262 Asm
 f263:Fk F K 263 Asn
 f264:Fk F K 264 oB
 f265:Fk F K 265 Aso
 f266:Fk F K 266 Asp
 f267:Fk F K 267 Asq
 f268:Fk F K 268 Asr
 f269:Fk F K 269 Ass
 f270:Fk F K 270 Ast
 f282:Fk F K 282 Asu
 f283:Fk F K 283 Asv
 f284:Fk F K 284 Asw
 f285:Fk F K 285 Asx
 f286:Fk F K 286 kI
 f287:Fk F K 287 Asy
 f288:Fk F K 288 Asz
 f289:Fk F K 289 As0
 f290:Fk F K 290 As1
 f291:Fk F K 291 As2
 f293:Fk F K 293 As3
 f294:Fk F K 294 As4
 f295:Fk F K 295 As5
 f296:Fk F K 296 As6
 f297:Fk F K 297 As7
 f303:Fk F K 303 As8
 f304:Fk F K 304 oC
 f306:Fk F K 306 As9
 f307:Fk F K 307 Ata
 f311:Fk F K 311 Atb
 f312:Fk F K 312 Atc
