/- Part of the proof. -/
import Derived.Test.YtclfgfpebplncaaGreatH01
import Derived.Test.YtclfgfpebplncaaGreatH02
set_option linter.unusedVariables false
set_option maxRecDepth 1000000
set_option maxHeartbeats 0
set_option linter.unusedSimpArgs false
set_option linter.unusedSectionVars false
namespace Go.Ev
abbrev AN (n:Nat):AV:= .int .i64 (n:Int)
abbrev UN (n:Nat):AV:= .int .u64 (n:Int)
abbrev Zi:AV:= .int .i64 ((0:Nat):Int)
abbrev Zu:AV:= .int .u64 ((0:Nat):Int)
abbrev Zy:AV:= .int .u8 ((0:Nat):Int)
open Go.Proofs
abbrev Cz (n:Nat):O:= .c (.int .i64 (n:Int))
abbrev Cv (d x:Nat):CI:=⟨some d,none,.mv (.t x)⟩
abbrev Ce (d x o:Nat):CI:=⟨some d,none,.extract (.t x) o⟩
abbrev Cn (d n x:Nat):CI:=⟨some d,none,.loadN n (.t x)⟩
abbrev Ck (d:Nat)(op:BinOp)(x n:Nat):CI:=⟨some d,none,.bin op (.t x) (Cz n) true .pint⟩
abbrev Cm (d n:Nat):CI:=⟨some d,none,.mv (Cz n)⟩
abbrev Cs (n x y:Nat):CI:=⟨none,none,.store n (.t x) (.t y)⟩
abbrev Cj (d:Nat)(op:COp):CI:=⟨some d,none,op⟩
abbrev Cc (d f:Nat)(a:List O):CI:=⟨some d,none,.callv (.c (.fn (.func f) [] [])) a⟩
noncomputable abbrev Apf (f:Func):Option CFn:=match f.body with|some b=>some (Vy EE f b)|none=>none
noncomputable abbrev nf (f:Func){c:CFn}(h:Apf f=some c:=by conv=>lhs;reduce;dsimp only [Int.ofNat_eq_natCast]):CFn:=c
noncomputable abbrev nc (b:CC){c:CC}(h:b=c:=by conv=>lhs;reduce;dsimp only [Int.ofNat_eq_natCast]):CC:=c
noncomputable def cf5:=nf Tryz.f5
noncomputable def Ac2:=nc (nav cf5.body [1,1,1,1,1,1,1,0,1,0,0,1,0,0,1,0])
noncomputable def Ajt:=nc (nav cf5.body [1,1,1,1,1,1,1,0,1,0,0,1,0,0,1,1,0,1])
noncomputable def Ac3:=nc (nav cf5.body [1,1,1,1,1,1,1,0,1,0,0,1,0,0,1,1,1,1,1])
noncomputable def Aju:=nc (nav cf5.body [1,1,1,1,1,1,1,0,1,0,0,1,0,0,1,1,1])
noncomputable def Ac4:=nc (nav cf5.body [1,1,1,1,1,1,1,0,1,0,0,1,0,0,1,1])
noncomputable def Tr:=nc (nav cf5.body [1,1,1,1,1,1,1,0,1,0,0,1,1])
noncomputable def Js:=nc (nav cf5.body [1,1,1,1,1,1,1,0,1,0,0])
noncomputable def Ajv:=nc (nav cf5.body [1,1,1,1,1,1,1,0,1,0])
noncomputable def tt:=nc (nav cf5.body [1,1,1,1,1,1,1,1])
noncomputable def Ajw:=nc (nav cf5.body [1,1,1])
noncomputable def cf9:=nf Tryz.f9
noncomputable def Apg:=nf Tryz.f10
noncomputable def Aph:=nf Tryz.f12
noncomputable def cf14:=nf Tryz.f14
noncomputable def Afe:=nc (nav cf14.body [1,1,1,1,1,1,1,1,1,0,1,0,0])
noncomputable def Aff:=nc (nav cf14.body [1,1,1,1,1,1,1,1,1,0,1,0])
noncomputable def Afg:=nc (nav cf14.body [1,1,1,1,1,1,1,1,1,1,1,1,1,1,1,1,0,1,0,0])
noncomputable def Afh:=nc (nav cf14.body [1,1,1,1,1,1,1,1,1,1,1,1,1,1,1,1,0,1,0])
noncomputable def Afi:=nc (nav cf14.body [1,1,1,1,1,1,1,1,1,1,1,1,1,1,1,1,1,0,1,0,0])
noncomputable def Afj:=nc (nav cf14.body [1,1,1,1,1,1,1,1,1,1,1,1,1,1,1,1,1,0,1,0])
noncomputable def Afk:=nc (nav cf14.body [1,1,1,1,1,1,1,1,1,1,1,1,1,1,1,1,1,1])
noncomputable def Afl:=nc (nav cf14.body [1,1,1,1,1,1,1,1,1,1,1,1,1,1,1,1,1])
noncomputable def Afm:=nc (nav cf14.body [1,1,1,1,1,1,1,1,1,1])
noncomputable def Api:=nf Tryz.f19
noncomputable def Apj:=nf Tryz.f22
noncomputable def cf23:=nf Tryz.f23
noncomputable def Afn:=nc (nav cf23.body [1,1,1,1,0,1,0,0])
noncomputable def Afo:=nc (nav cf23.body [1,1,1,1,1])
noncomputable def Apk:=nf Tryz.f24
noncomputable def Apl:=nf Tryz.f25
noncomputable def cf26:=nf Tryz.f26
noncomputable def Afp:=nc (nav cf26.body [1,1])
noncomputable def Apm:=nf Tryz.f27
noncomputable def Apn:=nf Tryz.f28
noncomputable def Apo:=nf Tryz.f29
noncomputable def App:=nf Tryz.f30
noncomputable def Apq:=nf Tryz.f31
noncomputable def cf32:=nf Tryz.f32
noncomputable def Afq:=nc (nav cf32.body [1,1,0,1,0,0])
noncomputable def Afr:=nc (nav cf32.body [1,1,1])
noncomputable def Apr:=nf Tryz.f33
noncomputable def Aps:=nf Tryz.f35
noncomputable def Apt:=nf Tryz.f41
noncomputable def Apu:=nf Tryz.f43
noncomputable def Apv:=nf Tryz.f44
noncomputable def Apw:=nf Tryz.f45
noncomputable def Apx:=nf Tryz.f50
noncomputable def Apy:=nf Tryz.f51
noncomputable def Apz:=nf Tryz.f52
noncomputable def Ap0:=nf Tryz.f53
noncomputable def Ap1:=nf Tryz.f54
noncomputable def Ap2:=nf Tryz.f55
noncomputable def Ap3:=nf Tryz.f56
noncomputable def cf57:=nf Tryz.f57
noncomputable def Afs:=nc (nav cf57.body [1,1,0,1,0,0])
noncomputable def Aft:=nc (nav cf57.body [1,1,0,1,0])
noncomputable def Afu:=nc (nav cf57.body [1,1,1])
noncomputable def Ap4:=nf Tryz.f58
noncomputable def cf59:=nf Tryz.f59
noncomputable def Ajx:=nc (nav cf59.body [1,0,1,0,0])
noncomputable def Ajy:=nc (nav cf59.body [1,0,1,0,1])
noncomputable def Ap5:=nf Tryz.f60
noncomputable def Ap6:=nf Tryz.f61
noncomputable def Ap7:=nf Tryz.f68
noncomputable def Ap8:=nf Tryz.f73
noncomputable def Ap9:=nf Tryz.f74
noncomputable def Aqa:=nf Tryz.f75
noncomputable def Aqb:=nf Tryz.f76
noncomputable def Aqc:=nf Tryz.f77
noncomputable def cf78:=nf Tryz.f78
noncomputable def Ajz:=nc (nav cf78.body [1,1,0,1,0,0])
noncomputable def Aj0:=nc (nav cf78.body [1,1,0,1,0,1])
noncomputable def Afv:=nc (nav cf78.body [1,1,1,1,1,1,0,1,0,0])
noncomputable def Afw:=nc (nav cf78.body [1,1,1,1,1,1,0,1,0])
noncomputable def Afx:=nc (nav cf78.body [1,1,1,1,1,1,1,0,1,0,0])
noncomputable def Afy:=nc (nav cf78.body [1,1,1,1,1,1,1,1,0,1,0,0])
noncomputable def Afz:=nc (nav cf78.body [1,1,1,1,1,1,1,1,0,1,0,1])
noncomputable def Af0:=nc (nav cf78.body [1,1,1,1,1,1,1,1,0,1])
noncomputable def Af1:=nc (nav cf78.body [1,1,1,1,1,1,1,1,1])
noncomputable def Af2:=nc (nav cf78.body [1,1,1,1,1,1,1])
noncomputable def Aqd:=nf Tryz.f79
noncomputable def cf80:=nf Tryz.f80
noncomputable def tu:=nc (nav cf80.body [1,1,0,1,0,0,1,0,0,1,0,1,0,1,1,0])
noncomputable def tw:=nc (nav cf80.body [1,1,0,1,0,0,1,0,0,1,1])
noncomputable def Y2:=nc (nav cf80.body [1,1,0,1,0,0,1,1])
noncomputable def Rn:=nc (nav cf80.body [1,1,0,1,0,0])
noncomputable def Af3:=nc (nav cf80.body [1,1,1])
noncomputable def cf81:=nf Tryz.f81
noncomputable def Af4:=nc (nav cf81.body [1,1,0,1,0,0,1,0,0,1,1,0])
noncomputable def Af5:=nc (nav cf81.body [1,1,0,1,0,0,1,1])
noncomputable def Af6:=nc (nav cf81.body [1,1,0,1,0,0])
noncomputable def Af7:=nc (nav cf81.body [1,1,1])
noncomputable def Aqe:=nf Tryz.f82
noncomputable def Aqf:=nf Tryz.f83
noncomputable def Aqg:=nf Tryz.f84
noncomputable def Aqh:=nf Tryz.f85
noncomputable def Aqi:=nf Tryz.f86
noncomputable def Aqj:=nf Tryz.f87
noncomputable def Aqk:=nf Tryz.f88
noncomputable def Aql:=nf Tryz.f89
noncomputable def Aqm:=nf Tryz.f90
noncomputable def Aqn:=nf Tryz.f91
noncomputable def Aqo:=nf Tryz.f92
noncomputable def Aqp:=nf Tryz.f93
noncomputable def Aqq:=nf Tryz.f94
noncomputable def Aqr:=nf Tryz.f95
noncomputable def Aj1:=nf Tryz.f102
noncomputable def Aj2:=nf Tryz.f103
noncomputable def Aj3:=nf Tryz.f104
noncomputable def Aj4:=nf Tryz.f105
noncomputable def Aj5:=nf Tryz.f106
noncomputable def Aj6:=nf Tryz.f107
noncomputable def Aj7:=nf Tryz.f108
noncomputable def Aj8:=nf Tryz.f109
noncomputable def Aj9:=nf Tryz.f110
noncomputable def cf111:=nf Tryz.f111
noncomputable def Aam:=nc (nav cf111.body [1,0,1,0,1,0])
noncomputable def Aan:=nc (nav cf111.body [1,0,1,1,1,1,1,1,1,1,0,0,0])
noncomputable def Aao:=nc (nav cf111.body [1,0,1,1,1,1,1,1,1,1,0,0])
noncomputable def Aap:=nc (nav cf111.body [1,0,1,1,1,1,1,1,1,1,1])
noncomputable def Aaq:=nc (nav cf111.body [1,0,1,1])
noncomputable def bo:=nc (nav cf111.body [1,0])
noncomputable def Aka:=nf Tryz.f112
noncomputable def Akb:=nf Tryz.f113
noncomputable def Akc:=nf Tryz.f114
noncomputable def Akd:=nf Tryz.f115
noncomputable def cf116:=nf Tryz.f116
noncomputable def Va:=nc (nav cf116.body [1,0,1,0,0])
noncomputable def bp:=nc (nav cf116.body [1,1])
noncomputable def Ake:=nf Tryz.f117
noncomputable def Akf:=nf Tryz.f125
noncomputable def Akg:=nf Tryz.f126
noncomputable def Akh:=nf Tryz.f127
noncomputable def Aki:=nf Tryz.f128
noncomputable def Akj:=nf Tryz.f129
noncomputable def Akk:=nf Tryz.f130
noncomputable def Akl:=nf Tryz.f131
noncomputable def Akm:=nf Tryz.f132
noncomputable def cf133:=nf Tryz.f133
noncomputable def Af8:=nc (nav cf133.body [1,1,0,0])
noncomputable def Af9:=nc (nav cf133.body [1,1,0,1])
noncomputable def Akn:=nf Tryz.f134
noncomputable def cf135:=nf Tryz.f135
noncomputable def Aga:=nc (nav cf135.body [1,1,1,1,1,0,1,0,0])
noncomputable def Aar:=nc (nav cf135.body [1,1,1,1,1,0,1,0,1])
noncomputable def Ako:=nf Tryz.f136
noncomputable def Akp:=nf Tryz.f137
noncomputable def Akq:=nf Tryz.f138
noncomputable def Akr:=nf Tryz.f139
noncomputable def Aks:=nf Tryz.f140
noncomputable def Akt:=nf Tryz.f141
noncomputable def Aku:=nf Tryz.f142
noncomputable def Akv:=nf Tryz.f143
noncomputable def cf144:=nf Tryz.f144
noncomputable def bq:=nc (nav cf144.body [1,1,1,0,0,0,1,0,1,0,1])
noncomputable def bt:=nc (nav cf144.body [1,1,1,0,0,0,1,1,1,1])
noncomputable def bu:=nc (nav cf144.body [1,1,1,0,0,0,1,1])
noncomputable def P3:=nc (nav cf144.body [1,1,1,0,0])
noncomputable def Akw:=nf Tryz.f145
noncomputable def Akx:=nf Tryz.f146
noncomputable def Aky:=nf Tryz.f147
noncomputable def Akz:=nf Tryz.f148
noncomputable def Ak0:=nf Tryz.f149
noncomputable def Ak1:=nf Tryz.f150
noncomputable def Ak2:=nf Tryz.f151
noncomputable def Ak3:=nf Tryz.f152
noncomputable def Ak4:=nf Tryz.f153
noncomputable def Ak5:=nf Tryz.f154
noncomputable def Ak6:=nf Tryz.f155
noncomputable def Ak7:=nf Tryz.f156
noncomputable def Ak8:=nf Tryz.f157
noncomputable def Ak9:=nf Tryz.f158
noncomputable def Ala:=nf Tryz.f159
noncomputable def Alb:=nf Tryz.f160
noncomputable def Alc:=nf Tryz.f161
noncomputable def Ald:=nf Tryz.f162
noncomputable def Ale:=nf Tryz.f163
noncomputable def Alf:=nf Tryz.f164
noncomputable def Alg:=nf Tryz.f165
noncomputable def Alh:=nf Tryz.f166
noncomputable def Ali:=nf Tryz.f167
noncomputable def Alj:=nf Tryz.f168
noncomputable def Alk:=nf Tryz.f169
noncomputable def cf170:=nf Tryz.f170
noncomputable def Aas:=nc (nav cf170.body [1,0,1,0,0])
noncomputable def Aat:=nc (nav cf170.body [1,1])
noncomputable def All:=nf Tryz.f172
noncomputable def Alm:=nf Tryz.f173
noncomputable def Aln:=nf Tryz.f174
noncomputable def Alo:=nf Tryz.f175
noncomputable def Alp:=nf Tryz.f178
noncomputable def Alq:=nf Tryz.f179
noncomputable def Alr:=nf Tryz.f180
noncomputable def Als:=nf Tryz.f181
noncomputable def Alu:=nf Tryz.f182
noncomputable def Alv:=nf Tryz.f183
noncomputable def Alw:=nf Tryz.f184
noncomputable def Alx:=nf Tryz.f185
noncomputable def Aly:=nf Tryz.f186
noncomputable def Alz:=nf Tryz.f187
noncomputable def Al0:=nf Tryz.f188
noncomputable def Al1:=nf Tryz.f189
noncomputable def Al2:=nf Tryz.f190
noncomputable def Al3:=nf Tryz.f191
noncomputable def Al4:=nf Tryz.f192
noncomputable def Al5:=nf Tryz.f193
noncomputable def Al6:=nf Tryz.f194
noncomputable def cf195:=nf Tryz.f195
noncomputable def Aau:=nc (nav cf195.body [1,1,1,1,1,0,1,0,0,1,1,1])
noncomputable def Vb:=nc (nav cf195.body [1,1,1,1,1,0,1,0,0])
noncomputable def Vc:=nc (nav cf195.body [1,1,1,1,1,1])
noncomputable def Al7:=nf Tryz.f196
noncomputable def cf197:=nf Tryz.f197
noncomputable def Al8:=nf Tryz.f198
noncomputable def Al9:=nf Tryz.f199
noncomputable def Ama:=nf Tryz.f200
noncomputable def Amb:=nf Tryz.f201
noncomputable def Amc:=nf Tryz.f202
noncomputable def Amd:=nf Tryz.f203
noncomputable def Ame:=nf Tryz.f204
noncomputable def Amf:=nf Tryz.f205
noncomputable def Amg:=nf Tryz.f208
noncomputable def Amh:=nf Tryz.f209
noncomputable def Ami:=nf Tryz.f210
noncomputable def Amj:=nf Tryz.f212
noncomputable def Amk:=nf Tryz.f213
noncomputable def Aml:=nf Tryz.f214
noncomputable def Amm:=nf Tryz.f215
noncomputable def Amn:=nf Tryz.f216
noncomputable def Amo:=nf Tryz.f217
noncomputable def Amp:=nf Tryz.f218
noncomputable def Amq:=nf Tryz.f219
noncomputable def Amr:=nf Tryz.f220
noncomputable def cf221:=nf Tryz.f221
noncomputable def Agb:=nc (nav cf221.body [1,1,0,1,0,0])
noncomputable def Aav:=nc (nav cf221.body [1,1,0,1,0,1])
noncomputable def Ams:=nf Tryz.f222
noncomputable def Amt:=nf Tryz.f223
noncomputable def Amu:=nf Tryz.f224
noncomputable def Amv:=nf Tryz.f225
noncomputable def Amw:=nf Tryz.f237
noncomputable def cf238:=nf Tryz.f238
noncomputable def tx:=nc (nav cf238.body [1,0,1,0,0])
noncomputable def tz:=nc (nav cf238.body [1,0,1,0,1])
noncomputable def Amx:=nf Tryz.f239
noncomputable def Amy:=nf Tryz.f240
noncomputable def Amz:=nf Tryz.f241
noncomputable def Am0:=nf Tryz.f242
noncomputable def Am1:=nf Tryz.f243
noncomputable def Am2:=nf Tryz.f250
noncomputable def cf251:=nf Tryz.f251
noncomputable def Aaw:=nc (nav cf251.body [1,1,1,0,1,0,0])
noncomputable def Aax:=nc (nav cf251.body [1,1,1,1])
noncomputable def Am3:=nf Tryz.f252
noncomputable def Am4:=nf Tryz.f253
noncomputable def Am5:=nf Tryz.f257
noncomputable def Am6:=nf Tryz.f258
structure Fx (F:T CFn)(K:T (List AV×AV)):Prop where
 f5:Fk F K 5 cf5
 f9:Fk F K 9 cf9
 f10:Fk F K 10 Apg
 f12:Fk F K 12 Aph
 f14:Fk F K 14 cf14
 f19:Fk F K 19 Api
 f22:Fk F K 22 Apj
 f23:Fk F K 23 cf23
 f24:Fk F K 24 Apk
 f25:Fk F K 25 Apl
 f26:Fk F K 26 cf26
 f27:Fk F K 27 Apm
 f28:Fk F K 28 Apn
 f29:Fk F K 29 Apo
 f30:Fk F K 30 App
 f31:Fk F K 31 Apq
 f32:Fk F K 32 cf32
 f33:Fk F K 33 Apr
 f35:Fk F K 35 Aps
 f41:Fk F K 41 Apt
 f43:Fk F K 43 Apu
 f44:Fk F K 44 Apv
 f45:Fk F K 45 Apw
 f50:Fk F K 50 Apx
 f51:Fk F K 51 Apy
 f52:Fk F K 52 Apz
 f53:Fk F K 53 Ap0
 f54:Fk F K 54 Ap1
 f55:Fk F K 55 Ap2
 f56:Fk F K 56 Ap3
 f57:Fk F K 57 cf57
 f58:Fk F K 58 Ap4
 f59:Fk F K 59 cf59
 f60:Fk F K 60 Ap5
 f61:Fk F K 61 Ap6
 f68:Fk F K 68 Ap7
 f73:Fk F K 73 Ap8
 f74:Fk F K 74 Ap9
 f75:Fk F K 75 Aqa
 f76:Fk F K 76 Aqb
 f77:Fk F K 77 Aqc
 f78:Fk F K 78 cf78
 f79:Fk F K 79 Aqd
 f80:Fk F K 80 cf80
 f81:Fk F K 81 cf81
 f82:Fk F K 82 Aqe
 f83:Fk F K 83 Aqf
 f84:Fk F K 84 Aqg
 f85:Fk F K 85 Aqh
 f86:Fk F K 86 Aqi
 f87:Fk F K 87 Aqj
 f88:Fk F K 88 Aqk
 f89:Fk F K 89 Aql
 f90:Fk F K 90 Aqm
 f91:Fk F K 91 Aqn
 f92:Fk F K 92 Aqo
 f93:Fk F K 93 Aqp
 f94:Fk F K 94 Aqq
 f95:Fk F K 95 Aqr
 f102:Fk F K 102 Aj1
 f103:Fk F K 103 Aj2
 f104:Fk F K 104 Aj3
 f105:Fk F K 105 Aj4
 f106:Fk F K 106 Aj5
 f107:Fk F K 107 Aj6
 f108:Fk F K 108 Aj7
 f109:Fk F K 109 Aj8
 f110:Fk F K 110 Aj9
 f111:Fk F K 111 cf111
 f112:Fk F K 112 Aka
 f113:Fk F K 113 Akb
 f114:Fk F K 114 Akc
 f115:Fk F K 115 Akd
 f116:Fk F K 116 cf116
 f117:Fk F K 117 Ake
 f125:Fk F K 125 Akf
 f126:Fk F K 126 Akg
 f127:Fk F K 127 Akh
 f128:Fk F K 128 Aki
 f129:Fk F K 129 Akj
 f130:Fk F K 130 Akk
 f131:Fk F K 131 Akl
 f132:Fk F K 132 Akm
 f133:Fk F K 133 cf133
 f134:Fk F K 134 Akn
 f135:Fk F K 135 cf135
 f136:Fk F K 136 Ako
 f137:Fk F K 137 Akp
 f138:Fk F K 138 Akq
 f139:Fk F K 139 Akr
 f140:Fk F K 140 Aks
 f141:Fk F K 141 Akt
 f142:Fk F K 142 Aku
 f143:Fk F K 143 Akv
 f144:Fk F K 144 cf144
 f145:Fk F K 145 Akw
 f146:Fk F K 146 Akx
 f147:Fk F K 147 Aky
 f148:Fk F K 148 Akz
 f149:Fk F K 149 Ak0
 f150:Fk F K 150 Ak1
 f151:Fk F K 151 Ak2
 f152:Fk F K 152 Ak3
 f153:Fk F K 153 Ak4
 f154:Fk F K 154 Ak5
 f155:Fk F K 155 Ak6
 f156:Fk F K 156 Ak7
 f157:Fk F K 157 Ak8
 f158:Fk F K 158 Ak9
 f159:Fk F K 159 Ala
 f160:Fk F K 160 Alb
 f161:Fk F K 161 Alc
 f162:Fk F K 162 Ald
 f163:Fk F K 163 Ale
 f164:Fk F K 164 Alf
 f165:Fk F K 165 Alg
 f166:Fk F K 166 Alh
 f167:Fk F K 167 Ali
 f168:Fk F K 168 Alj
 f169:Fk F K 169 Alk
 f170:Fk F K 170 cf170
 f172:Fk F K 172 All
 f173:Fk F K 173 Alm
 f174:Fk F K 174 Aln
 f175:Fk F K 175 Alo
 f178:Fk F K 178 Alp
 f179:Fk F K 179 Alq
 f180:Fk F K 180 Alr
 f181:Fk F K 181 Als
 f182:Fk F K 182 Alu
 f183:Fk F K 183 Alv
 f184:Fk F K 184 Alw
 f185:Fk F K 185 Alx
 f186:Fk F K 186 Aly
 f187:Fk F K 187 Alz
 f188:Fk F K 188 Al0
 f189:Fk F K 189 Al1
 f190:Fk F K 190 Al2
 f191:Fk F K 191 Al3
 f192:Fk F K 192 Al4
 f193:Fk F K 193 Al5
 f194:Fk F K 194 Al6
 f195:Fk F K 195 cf195
 f196:Fk F K 196 Al7
 f197:Fk F K 197 cf197
 f198:Fk F K 198 Al8
 f199:Fk F K 199 Al9
 f200:Fk F K 200 Ama
 f201:Fk F K 201 Amb
 f202:Fk F K 202 Amc
 f203:Fk F K 203 Amd
 f204:Fk F K 204 Ame
 f205:Fk F K 205 Amf
 f208:Fk F K 208 Amg
 f209:Fk F K 209 Amh
 f210:Fk F K 210 Ami
 f212:Fk F K 212 Amj
 f213:Fk F K 213 Amk
 f214:Fk F K 214 Aml
 f215:Fk F K 215 Amm
 f216:Fk F K 216 Amn
 f217:Fk F K 217 Amo
 f218:Fk F K 218 Amp
 f219:Fk F K 219 Amq
 f220:Fk F K 220 Amr
 f221:Fk F K 221 cf221
 f222:Fk F K 222 Ams
 f223:Fk F K 223 Amt
 f224:Fk F K 224 Amu
 f225:Fk F K 225 Amv
 f237:Fk F K 237 Amw
 f238:Fk F K 238 cf238
 f239:Fk F K 239 Amx
 f240:Fk F K 240 Amy
 f241:Fk F K 241 Amz
 f242:Fk F K 242 Am0
 f243:Fk F K 243 Am1
 f250:Fk F K 250 Am2
 f251:Fk F K 251 cf251
 f252:Fk F K 252 Am3
 f253:Fk F K 253 Am4
 f257:Fk F K 257 Am5
 f258:Fk F K 258 Am6
