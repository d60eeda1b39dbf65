/- Part of the proof. -/
import Derived.Test.YtgkianlpkdfhkaaGreatH02
set_option linter.unusedVariables false
set_option linter.unusedSectionVars false
set_option linter.unusedSimpArgs false
set_option maxRecDepth 10000
namespace Go.Ev
abbrev AN (n:Nat):AV:= .int .i64 (n:Int)
abbrev UN (n:Nat):AV:= .int .u64 (n:Int)
abbrev Cz (n:Nat):O:= .c (.int .i64 (n:Int))
abbrev Cv (d x:Nat):CI:=⟨some d,none,.mv (.t x)⟩
abbrev Cl (d x:Nat):CI:=⟨some d,none,.load1 (.t x)⟩
abbrev Cf (d x o:Nat):CI:=⟨some d,none,.faddr (.t x) o⟩
abbrev Ce (d x o:Nat):CI:=⟨some d,none,.extract (.t x) o⟩
abbrev Cn (d n x:Nat):CI:=⟨some d,none,.loadN n (.t x)⟩
abbrev Ci (d n x y:Nat):CI:=⟨some d,none,.iaddrS n (.t x) (.t y)⟩
abbrev Cb (d:Nat)(op:BinOp)(x y:Nat):CI:=⟨some d,none,.bin op (.t x) (.t y) false .pint⟩
abbrev Ck (d:Nat)(op:BinOp)(x n:Nat):CI:=⟨some d,none,.bin op (.t x) (Cz n) true .pint⟩
abbrev Cm (d n:Nat):CI:=⟨some d,none,.mv (Cz n)⟩
abbrev Cs (n x y:Nat):CI:=⟨none,none,.store n (.t x) (.t y)⟩
abbrev Cj (d:Nat)(op:COp):CI:=⟨some d,none,op⟩
abbrev Cg (d g:Nat)(b:Bool)(op:COp):CI:=⟨some d,some (g,b),op⟩
abbrev Cc (d f:Nat)(a:List O):CI:=⟨some d,none,.callv (.c (.fn (.func f) [] [])) a⟩
abbrev Zi:AV:= .int .i64 ((0:Nat):Int)
abbrev Zu:AV:= .int .u64 ((0:Nat):Int)
abbrev Zy:AV:= .int .u8 ((0:Nat):Int)
abbrev Zw:AV:= .int .u32 ((0:Nat):Int)
abbrev Pf (d x y:Nat):CI:=Cj d (.pick (.t x) (.t y) (.c (.bool false)))
abbrev Pt (d x y:Nat):CI:=Cj d (.pick (.t x) (.c (.bool true)) (.t y))
abbrev Gtl (d g x:Nat):CI:=Cg d g true (.load1 (.t x))
abbrev Gfl (d g x:Nat):CI:=Cg d g false (.load1 (.t x))
abbrev Gtf (d g x o:Nat):CI:=Cg d g true (.faddr (.t x) o)
abbrev Gff (d g x o:Nat):CI:=Cg d g false (.faddr (.t x) o)
abbrev Gtv (d g x:Nat):CI:=Cg d g true (.mv (.t x))
abbrev Gfv (d g x:Nat):CI:=Cg d g false (.mv (.t x))
abbrev Gtb (d g:Nat)(o:BinOp)(x y:Nat):CI:=Cg d g true (.bin o (.t x) (.t y) false .pint)
abbrev Gfb (d g:Nat)(o:BinOp)(x y:Nat):CI:=Cg d g false (.bin o (.t x) (.t y) false .pint)
abbrev Gtk (d g:Nat)(o:BinOp)(x y:Nat):CI:=Cg d g true (.bin o (.t x) (Cz y) true .pint)
abbrev Gfk (d g:Nat)(o:BinOp)(x y:Nat):CI:=Cg d g false (.bin o (.t x) (Cz y) true .pint)
abbrev Bf (d:Nat):CI:=Cj d (.mv (.c (.bool false)))
abbrev Bt (d:Nat):CI:=Cj d (.mv (.c (.bool true)))
abbrev Bn (d:Nat):CI:=Cj d (.mv (.c .nils))
abbrev Cap (d a b x y:Nat):CI:=Cj d (.append a b (.t x) (.t y))
abbrev Nc (d x:Nat):CI:=Cj d (.nilc (.t x))
abbrev Le (d x:Nat):CI:=Cj d (.lenS (.t x))
abbrev Nt (d x:Nat):CI:=Cj d (.un .not (.t x))
abbrev Cx (d:Nat)(k:IntKind)(x:Nat):CI:=Cj d (.conv k (.t x))
abbrev Bx (d n x:Nat):CI:=Cj d (.box n (.t x))
abbrev Ik (d n x y:Nat):CI:=Cj d (.iaddrS n (.t x) (Cz y))
abbrev Dw (d x:Nat):DI:=⟨Cv d x,[x]⟩
abbrev Dl (d x:Nat):DI:=⟨Cl d x,[x]⟩
abbrev Df (d x o:Nat):DI:=⟨Cf d x o,[x]⟩
abbrev Dn (d x:Nat):DI:=⟨Nc d x,[x]⟩
abbrev DN (d n x:Nat):DI:=⟨Cn d n x,[x]⟩
abbrev De (d x o:Nat):DI:=⟨Ce d x o,[x]⟩
abbrev DSt (n x y:Nat):DI:=⟨Cs n x y,[x,y]⟩
abbrev DJ (d n x y:Nat):DI:=⟨Ci d n x y,[x,y]⟩
abbrev DL (d g x:Nat):DI:=⟨Gtl d g x,[g,x]⟩
abbrev DF (d g x o:Nat):DI:=⟨Gtf d g x o,[g,x]⟩
abbrev Sq (a b:CC):CC:= .seq a b
abbrev So (l:List CI)(b:CC):CC:= .seq (.ops l) b
abbrev Cq (n:Nat)(a b:CC):CC:= .cond (.t n) a b
abbrev Al (d:Nat)(l:List AV):CI:=Cj d (.alloc l)
abbrev Bu (d:Nat)(l:List AV)(p:List (Nat×Nat×O)):CI:=Cj d (.build l p)
abbrev Bs (d n:Nat)(l:List AV)(p:List (Nat×Nat×O)):CI:=Cj d (.bslice n l p)
abbrev Mk0 (d:Nat):CI:=Cj d .mkmap
def Ag2:CFn:=⟨38,[.tmp 4],(So [Cm 4 0] (.scope (Sq (So [Cm 4 1] (So [Cv 5 0,Cc 6 57 [.t 5]] (Cq 6 (.goto 0) .skip))) (Sq (So [Cm 4 2] (So [Cv 7 0,Cv 8 1,Cc 9 58 [.t 7,.t 8],Nt 10 9] (Cq 10 (.goto 0) .skip))) (Sq (So [Cm 4 50] (So [Cv 11 0,Nc 12 11,Cf 13 12 9,Cl 14 13] (Cq 14 (.goto 0) .skip))) (Sq (So [Cm 4 56] (Sq (.drawn [Dw 15 0,Dn 16 15,Df 17 16 5,Dl 18 17,Dw 19 1,DJ 20 3 18 19,Df 21 20 2,Dl 22 21,Dw 23 0,Dn 24 23,Df 25 24 0,Df 26 25 3,Dl 27 26,⟨Cb 28 .geq 22 27,[22,27]⟩] [] []) (Cq 28 (.goto 0) .skip))) (Sq (So [Cv 29 0,Cv 30 0,Nc 31 30,Cf 32 31 5,Cl 33 32,Cv 34 1,Ci 35 3 33 34,Cc 36 149 [.t 29,.t 35],Cv 4 36] .ret) (Sq (.label 0) (So [Cv 37 4,Cv 4 37] .ret)))))))))⟩
def tp:CC:=So [Cb 42 .lss 41 40] (Sq (Cq 42 .skip (.exit 2)) (Sq (.block 3 (So [Cv 43 41,Cv 9 43] (.drawn [Dw 44 6,Dn 45 44,Df 46 45 5,Dl 47 46,Dw 48 9,DJ 49 3 47 48,Df 50 2 1,Dl 51 50] [] [⟨⟨Cc 52 84 [.t 49,.t 51,Cz 1],[49,51]⟩,[],[]⟩]))) (.ops [Ck 53 .add 41 1,Cv 41 53])))
def tq:CC:=So [Cv 54 6,Cv 4 54,Cm 5 0] .ret
def cf30:CFn:=⟨55,[.tmp 4,.tmp 5],(So [Bx 2 4 0,Cj 4 (.mv (.c (.nilp))),Cm 5 0] (Sq (So [Cn 10 4 2,Cc 11 81 [.t 10],Nt 12 11,Cv 13 12,Gfv 14 13 1,Cg 15 13 false (.callv (.c (.fn (.func 82) [] [])) [.t 14,(.c (.fn (.func 83) [] []))]),Pt 16 13 15] (Cq 16 (So [Cj 4 (.mv (.c (.nilp))),Cm 5 2] .ret) .skip)) (Sq (.drawn [DN 17 4 2,⟨Mk0 18,[]⟩,Df 19 2 0,Dl 20 19,⟨Cj 21 (.mkslice 40 [.nils,Zi,Zi] (.t 20) (.t 20)),[20,20]⟩,⟨Bu 22 [Zi,Zi,Zi,Zi,.nilm,.nils,Zi,Zi,Zi,.bool false] [(0,4,(.t 17)),(4,1,(.t 18)),(5,1,(.t 21)),(7,1,(.c (.int .i64 (-1))))],[17,18,21]⟩,⟨Bx 23 10 22,[22]⟩,Dw 6 23] [DN 17 4 2,Dl 20 19] []) (Sq (So [Cv 24 1,Le 25 24,Cm 26 0] (.block 0 (.loop (So [Cb 27 .lss 26 25] (Sq (Cq 27 .skip (.exit 0)) (Sq (.block 1 (So [Ci 28 1 24 26,Cl 29 28,Cv 8 29] (.ops [Cv 30 6,Nc 31 30,Cf 32 31 4,Cl 33 32,Cv 34 8,⟨none,none,.mupd .pint (.t 33) (.t 34) (.c (.bool true))⟩]))) (.ops [Ck 35 .add 26 1,Cv 26 35]))))))) (Sq (So [Cv 36 6,Nc 37 36,Cf 38 37 5,Cl 39 38,Le 40 39,Cm 41 0] (.block 2 (.loop tp))) tq)))))⟩
def Ag3:CC:= .ops [Cv 26 10,Ck 27 .neq 26 0,Cv 28 27,Gff 29 28 8 2,Gfl 30 28 29,Cg 31 28 false (.callv (.c (.fn (.func 86) [] [])) [.t 30]),Gfk 32 28 .eql 31 0,Pt 33 28 32,Cv 34 33,Gff 35 34 5 2,Gfl 36 34 35,Gff 37 34 5 1,Gfl 38 34 37,Gfb 39 34 .leq 36 38,Pt 40 34 39,Cv 41 40,Gfv 42 41 9,Gff 43 41 5 0,Gfl 44 41 43,Cg 45 41 false (.callv (.c (.fn (.func 22) [] [])) [.t 42,.t 44]),Gfk 46 41 .neq 45 0,Pt 47 41 46]
def Adz:CC:= .ops [Cv 48 0,Cn 49 4 8,Cv 50 9,Cf 51 5 2,Cl 52 51,Cf 53 5 1,Cl 54 53,Bu 55 [Zi] [(0,1,(.c (.int .i64 (-1))))],Bu 56 [Zi] [(0,1,(.c (.int .i64 (-1))))],Mk0 57,Mk0 58,Mk0 59,Bu 60 [.nilp,.nilp,Zi,Zi,Zi,Zi,.nilp,Zu,Zu,Zi,Zi,.nilm,.nilm,.nilm,.bool false] [(1,1,(.t 48)),(2,4,(.t 49)),(6,1,(.t 50)),(7,1,(.t 52)),(8,1,(.t 54)),(9,1,(.t 55)),(10,1,(.t 56)),(11,1,(.t 57)),(12,1,(.t 58)),(13,1,(.t 59))],Bx 61 15 60,Cv 11 61]
def Akc:CFn:=⟨72,[.tmp 6,.tmp 7],(So [Bx 5 5 2,Cj 6 (.mv (.c (.nilp))),Cm 7 0] (So [Cv 12 0,Cc 13 85 [.t 12],Al 8 [Zi,Zi,Zi,Zi],Cs 4 8 13] (Sq (So [Cf 14 8 0,Cl 15 14,Ck 16 .eql 15 0] (Cq 16 (So [Cj 6 (.mv (.c (.nilp))),Cm 7 1] .ret) .skip)) (So [Cv 18 1,Cf 19 8 0,Cl 20 19,Cf 21 8 1,Cl 22 21,Cc 23 21 [.t 18,.t 20,.t 22],Cv 17 23,Ce 24 17 0,Ce 25 17 1,Cv 9 24,Cv 10 25] (Sq (Sq Ag3 (Cq 47 (So [Cj 6 (.mv (.c (.nilp))),Cm 7 2] .ret) .skip)) (Sq Adz (Sq (So [Cv 62 11,Cn 63 5 5,Cc 64 87 [.t 62,.t 63],Nt 65 64] (Cq 65 (So [Cj 6 (.mv (.c (.nilp))),Cm 7 2] .ret) .skip)) (Sq (So [Cv 66 0,Cc 67 88 [.t 66],Nt 68 67] (Cq 68 (So [Cj 6 (.mv (.c (.nilp))),Cm 7 50] .ret) .skip)) (So [Cv 69 11,Bu 70 [.nilp] [(0,1,(.t 69))],Bx 71 1 70,Cv 6 71,Cm 7 0] .ret)))))))))⟩
def Akd:CFn:=⟨22,[.cellN 4 2],(So [Al 4 [Zi,.nils]] (So [Cv 7 0,Bu 8 [Zi,.nils] [(0,1,(.t 7))],Al 5 [Zi,.nils],Cs 2 5 8] (Sq (So [Cm 6 0] (.block 0 (.loop (Sq (So [Cv 9 6,Cv 10 1,Cb 11 .lss 9 10] (Cq 11 .skip (.exit 0))) (Sq (.block 1 (.drawn [Df 14 5 1,Dl 15 14,Dw 16 0,⟨Cj 17 (.mkslice 1 [Zy] (.t 16) (.t 16)),[16,16]⟩,⟨Bs 18 1 [.nils] [(0,1,(.t 17))],[17]⟩] [Dl 15 14] [⟨⟨Cap 19 1 24 15 18,[15,18]⟩,[Df 20 5 1],[]⟩,⟨DSt 1 20 19,[],[]⟩])) (.ops [Cv 12 6,Ck 13 .add 12 1,Cv 6 13])))))) (So [Cn 21 2 5,Cs 2 4 21] .ret))))⟩
def Ake:CFn:=⟨11,[.cell1 4,.tmp 5],(So [Bx 3 1 1,Al 4 [.nils],Cm 5 0] (So [Cv 6 0,Cj 7 (.mkfn (.func 96) [] [.t 3,.t 4]),Cc 8 42 [.t 6,.t 7],Cv 5 8] (So [Cl 9 4,Cv 10 5,Cs 1 4 9,Cv 5 10] .ret)))⟩
def Akf:CFn:=⟨13,[.tmp 2],(So [Bf 2] (So [Cv 3 0,Cc 4 57 [.t 3],Nt 5 4,Cv 6 5,Gtv 7 6 0,Cg 8 6 true (.nilc (.t 7)),Gtf 9 6 8 9,Gtl 10 6 9,Cg 11 6 true (.un .not (.t 10)),Pf 12 6 11,Cv 2 12] .ret))⟩
def Akg:CFn:=⟨7,[.cell1 2],(So [Al 2 [.nils]] (So [Cv 3 0,Cj 4 (.mkfn (.func 55) [] [.t 2]),Cc 5 42 [.t 3,.t 4]] (So [Cl 6 2,Cs 1 2 6] .ret)))⟩
def Akh:CFn:=⟨8,[.tmp 4],(So [Bx 3 1 1,Cm 4 0] (So [Cv 5 0,Cj 6 (.mkfn (.func 89) [] [.t 3]),Cc 7 42 [.t 5,.t 6],Cv 4 7] .ret))⟩
def Ag4:CFn:=⟨56,[.tmp 10],(So [Cm 10 0] (.scope (Sq (So [Cm 10 1] (So [Cv 11 0,Cc 12 57 [.t 11]] (Cq 12 (.goto 0) .skip))) (Sq (So [Cm 10 2] (So [Cv 13 0,Cv 14 1,Cv 15 2,Cc 16 62 [.t 13,.t 14,.t 15],Nt 17 16,Cv 18 17,Gfv 19 18 3,Cg 20 18 false (.lenS (.t 19)),Gfv 21 18 0,Cg 22 18 false (.nilc (.t 21)),Gff 23 18 22 0,Gff 24 18 23 2,Gfl 25 18 24,Gfb 26 18 .neq 20 25,Pt 27 18 26,Cv 28 27,Gfv 29 28 4,Cg 30 28 false (.lenS (.t 29)),Gfk 31 28 .neq 30 64,Pt 32 28 31] (Cq 32 (.goto 0) .skip))) (Sq (So [Cm 10 50] (So [Cv 33 0,Nc 34 33,Cf 35 34 9,Cl 36 35] (Cq 36 (.goto 0) .skip))) (Sq (So [Cm 10 51] (So [Cv 37 2,Cv 38 0,Nc 39 38,Cf 40 39 5,Cl 41 40,Cv 42 1,Ci 43 3 41 42,Cf 44 43 1,Cl 45 44,Cb 46 .neq 37 45] (Cq 46 (.goto 0) .skip))) (Sq (So [Cv 47 0,Cv 48 1,Cv 49 2,Cv 50 3,Cv 51 4,Bs 52 2 [.nils,.nils] [(0,1,(.t 50)),(1,1,(.t 51))],Cc 53 114 [.t 52],Cc 54 174 [.t 47,.t 48,.t 49,.t 53],Cv 10 54] .ret) (Sq (.label 0) (So [Cv 55 10,Cv 10 55] .ret)))))))))⟩
def Aki:CFn:=⟨12,[.tmp 2],(So [Bf 2] (So [Cv 3 0,Cj 4 (.bin .eql (.t 3) (.c (.nilp)) true .ptr),Cv 5 4,Gfv 6 5 0,Cg 7 5 false (.nilc (.t 6)),Gff 8 5 7 5,Gfl 9 5 8,Cg 10 5 false (.bin .eql (.t 9) (.c (.nils)) true .nilS),Pt 11 5 10,Cv 2 11] .ret))⟩
def Akj:CFn:=⟨16,[.tmp 4],(So [Bf 4] (So [Cv 5 1,Ck 6 .geq 5 0,Cv 7 6,Gtv 8 7 1,Gtv 9 7 0,Cg 10 7 true (.nilc (.t 9)),Gtf 11 7 10 5,Gtl 12 7 11,Cg 13 7 true (.lenS (.t 12)),Gtb 14 7 .lss 8 13,Pf 15 7 14,Cv 4 15] .ret))⟩
def Ag5:CFn:=⟨19,[.tmp 4],(So [Bx 2 1 0,Bx 3 1 1,Cm 4 0] (So [Cl 6 3,Nc 7 6,Cf 8 7 2,Cl 9 8,Ck 10 .add 9 1,Nc 11 6,Cf 12 11 2,Cs 1 12 10] (So [Cj 13 (.mkfn (.func 175) [] [.t 3,.t 2]),Cv 5 13] (So [Cl 14 2,Cj 15 (.mkfn (.func 177) [] [.t 3,.t 2]),Cv 16 5,Cv 17 5,Cc 18 176 [.t 14,.t 15,.t 16,.t 17,Cz 55],Cv 4 18] .ret))))⟩
def Akk:CFn:=⟨10,[.cellN 2 4],(So [Al 2 [Zi,Zi,Zi,Zi]] (Sq (So [Cv 3 0,Cc 4 57 [.t 3]] (Cq 4 (So [Bu 5 [Zi,Zi,Zi,Zi] [],Cs 4 2 5] .ret) .skip)) (So [Cv 6 0,Nc 7 6,Cf 8 7 0,Cn 9 4 8,Cs 4 2 9] .ret)))⟩
def Akl:CFn:=⟨40,[.tmp 6,.tmp 7],(So [Cj 6 (.mv (.c (.nilp))),Cm 7 0] (Sq (So [Cv 8 0,Ck 9 .lss 8 1,Cv 10 9,Gfv 11 10 0,Gfk 12 10 .gtr 11 16777216,Pt 13 10 12,Cv 14 13,Gfv 15 14 1,Gfk 16 14 .lss 15 2,Pt 17 14 16,Cv 18 17,Gfv 19 18 1,Gfk 20 18 .gtr 19 4096,Pt 21 18 20,Cv 22 21,Gfv 23 22 2,Gfk 24 22 .lss 23 2,Pt 25 22 24,Cv 26 25,Gfv 27 26 2,Gfk 28 26 .gtr 27 512,Pt 29 26 28] (Cq 29 (So [Cj 6 (.mv (.c (.nilp))),Cm 7 2] .ret) .skip)) (So [Cv 30 0,Cv 31 1,Cv 32 2,Bu 33 [Zi,Zi,Zi] [(0,1,(.t 30)),(1,1,(.t 31)),(2,1,(.t 32))],Mk0 34,Mk0 35,Cv 36 1,Cj 37 (.mkslice 8 [Zi] (.t 36) (.t 36)),Bu 38 [Zi,Zi,Zi,.nilm,.nilm,.nils] [(0,3,(.t 33)),(3,1,(.t 34)),(4,1,(.t 35)),(5,1,(.t 37))],Bx 39 6 38,Cv 6 39,Cm 7 0] .ret)))⟩
def Akm:CFn:=⟨50,[.cell1 4],(So [Bx 2 1 0,Bx 3 1 1,Al 4 [Zi]] (Sq (So [Cl 12 2,Cc 13 59 [.t 12]] (Cq 13 (So [⟨none,none,.store 1 (.t 4) (Cz 1)⟩] .ret) .skip)) (So [Al 5 [Zi],⟨none,none,.store 1 (.t 5) (Cz 0)⟩] (So [Al 6 [.nils]] (So [Cj 14 (.mkfn (.func 60) [] [.t 4,.t 5,.t 2,.t 3,.t 6]),⟨none,none,.defer (.t 14) []⟩] (Sq (So [Cl 15 3,Le 16 15,Cm 17 0] (.block 0 (.loop (So [Cb 18 .lss 17 16] (Sq (Cq 18 .skip (.exit 0)) (Sq (.block 1 (So [Ci 19 2 15 17,Cn 20 2 19,Al 8 [Zi,Zi],Cs 2 8 20] (So [Cf 21 8 0,Cl 22 21,Bu 23 [Zi,Zi] [(0,1,(.t 22)),(1,1,(.c (.int .i64 (-1))))],Al 9 [Zi,Zi],Cs 2 9 23] (Sq (Sq (.drawn [Dl 25 2,Dn 26 25,Df 27 26 3,Dl 28 27,Df 29 8 0,Dl 30 29,⟨Cj 31 (.lookup .pint Zi (.t 28) (.t 30) true),[28,30]⟩,Dw 24 31,De 32 24 0,De 33 24 1,Dw 10 32,Dw 11 33] [] []) (So [Cv 34 11] (Cq 34 (.ops [Cv 35 10,Cf 36 9 1,Cs 1 36 35]) .skip))) (So [Cl 37 2,Cn 38 2 8,Cc 39 61 [.t 37,.t 38]] (Sq (.drawn [Dl 40 6,Dl 41 5,Dl 42 5,⟨Cj 43 (.sliceS 2 (.t 40) none (some (.t 41)) (some (.t 42))),[40,41,42]⟩,DN 44 2 9,⟨Bs 45 1 [Zi,Zi] [(0,2,(.t 44))],[44]⟩] [Dl 40 6,Dl 41 5,Dl 42 5,DN 44 2 9] [⟨⟨Cap 46 2 16 43 45,[43,45]⟩,[],[]⟩,⟨DSt 1 6 46,[],[]⟩]) (.ops [Cl 47 5,Ck 48 .add 47 1,Cs 1 5 48]))))))) (.ops [Ck 49 .add 17 1,Cv 17 49]))))))) (So [⟨none,none,.store 1 (.t 4) (Cz 0)⟩] .ret)))))))⟩
def Ab1:CC:=So [Cv 3 7] (.ops [Cv 4 8])
def Ab2:CC:= .block 1 (.ops [Cl 9 2,Cv 10 3,Cv 11 4,Bu 12 [Zi,Zi] [(0,1,(.t 10)),(1,1,(.t 11))],Bs 13 1 [Zi,Zi] [(0,2,(.t 12))],Cap 14 2 16 9 13,Cs 1 2 14])
def cf56:CFn:=⟨16,[.cell1 2],(So [Al 2 [.nils]] (Sq (So [Cv 5 0,Cc 6 109 [.t 5]] (.block 0 (.rangeFunc (.t 6) [7,8] Ab1 Ab2))) (So [Cl 15 2,Cs 1 2 15] .ret)))⟩
def Akn:CFn:=⟨21,[.tmp 4],(So [Cm 4 0] (Sq (So [Cv 5 0,Cc 6 57 [.t 5],Cv 7 6,Gfv 8 7 0,Gfv 9 7 1,Cg 10 7 false (.callv (.c (.fn (.func 58) [] [])) [.t 8,.t 9]),Cg 11 7 false (.un .not (.t 10)),Pt 12 7 11] (Cq 12 (So [Cm 4 0] .ret) .skip)) (So [Cv 13 0,Nc 14 13,Cf 15 14 5,Cl 16 15,Cv 17 1,Ci 18 3 16 17,Cf 19 18 1,Cl 20 19,Cv 4 20] .ret)))⟩
def Ag6:CC:= .ops [Cv 4 3,Cf 5 1 0,Cl 6 5,Cj 7 (.callv (.t 4) [.t 6,Cz 2,Cz 4096]),Cv 8 7,Gtv 9 8 3,Gtf 10 8 1 1,Gtl 11 8 10,Cg 12 8 true (.callv (.t 9) [.t 11,Cz 2,Cz 512]),Pf 13 8 12,Cv 14 13,Gtv 15 14 3,Gtf 16 14 1 2,Gtl 17 14 16,Cg 18 14 true (.callv (.t 15) [.t 17,Cz 1,Cz 8192]),Pf 19 14 18,Cv 20 19,Gtv 21 20 3,Gtf 22 20 1 3,Gtl 23 20 22,Cg 24 20 true (.callv (.t 21) [.t 23,Cz 1,Cz 1048576]),Pf 25 20 24,Cv 2 25]
def Ako:CFn:=⟨26,[.tmp 2],(So [Bx 1 4 0,Bf 2] (So [Cj 3 (.mv (.c (.fn (.func 130) [] [])))] (Sq Ag6 .ret)))⟩
def Akp:CFn:=⟨9,[.tmp 4],(So [Bf 4] (So [Cv 5 0,Cv 6 1,Cc 7 131 [.t 5,.t 6],Ck 8 .geq 7 0,Cv 4 8] .ret))⟩
def Akq:CFn:=⟨5,[.tmp 2],(So [Bf 2] (So [Cv 3 0,Ck 4 .lss 3 0,Cv 2 4] .ret))⟩
def Akr:CFn:=⟨38,[],(So [Cv 7 0,Cv 8 1,Cj 9 (.mkslice 32 [.nils,Zi] (.t 8) (.t 8)),Nc 10 7,Cf 11 10 0,Cs 1 11 9] (Sq (So [Cv 12 0,Nc 13 12,Cf 14 13 0,Cl 15 14,Le 16 15,Cm 17 0] (.block 0 (.loop (So [Cb 18 .lss 17 16] (Sq (Cq 18 .skip (.exit 0)) (Sq (.block 1 (So [Cv 19 17,Cv 6 19] (.ops [Cv 20 0,Nc 21 20,Cf 22 21 0,Cl 23 22,Cv 24 6,Cv 25 2,Ci 26 2 23 24,Cf 27 26 1,Cs 1 27 25]))) (.ops [Ck 28 .add 17 1,Cv 17 28]))))))) (So [Cv 29 0,Nc 30 29,Cf 31 30 1,⟨none,none,.store 1 (.t 31) (Cz 0)⟩] (So [Cv 32 2,Ck 33 .neq 32 1] (Cq 33 (.ops [Cv 34 0,Cv 35 1,Nc 36 34,Cf 37 36 1,Cs 1 37 35]) .skip)))))⟩
def Aks:CFn:=⟨12,[.tmp 2],(So [Cm 2 0] (Sq (So [Cv 3 0,Ck 4 .lss 3 12,Cv 5 4,Gfv 6 5 0,Gfk 7 5 .gtr 6 8192,Pt 8 5 7] (Cq 8 (So [Cm 2 0] .ret) .skip)) (So [Cv 9 0,Ck 10 .sub 9 4,Ck 11 .quo 10 8,Cv 2 11] .ret)))⟩
def Ab3:CC:= .ops [Cv 7 22]
def Ab4:CC:= .block 1 (.ops [Cl 23 5,Cv 24 7,Bs 25 1 [Zi] [(0,1,(.t 24))],Cap 26 1 8 23 25,Cs 1 5 26])
def Ad0:CC:= .ops [Cf 90 13 1,Cl 91 90,Ck 92 .geq 91 0,Cv 93 92,Gtv 94 93 8,Gtv 95 93 14,Cg 96 93 true (.callv (.c (.fn (.func 49) [] [])) [.t 94,.t 95]),Gtk 97 93 .neq 96 3,Gtv 98 93 97,Gfl 99 98 2,Cg 100 98 false (.nilc (.t 99)),Gff 101 98 100 11,Gfl 102 98 101,Gfv 103 98 14,Cg 104 98 false (.lookup .pint (.bool false) (.t 102) (.t 103) false),Cg 105 93 true (.pick (.t 98) (.c (.bool true)) (.t 104)),Pf 106 93 105]
def tt:CC:= .ops [Cv 15 110]
def tu:CC:= .block 7 (So [Cl 112 2,Nc 113 112,Cf 114 113 1,Cl 115 114,Cv 116 15,Cc 117 20 [.t 115,.t 116],Ck 118 .gtr 117 0] (Cq 118 (So [⟨none,none,.store 1 (.t 4) (.c (.bool false))⟩] .ret) .skip))
def cf87:CFn:=⟨119,[.cell1 4],(So [Bx 2 1 0,Bx 3 5 1,Al 4 [.bool false]] (So [Al 5 [.nils]] (Sq (So [Cl 16 2,Nc 17 16,Cf 18 17 1,Cl 19 18,Cc 20 132 [.t 19]] (.block 0 (.rangeFunc (.t 20) [21,22] Ab3 Ab4))) (So [Cl 28 5,Cc 29 133 [.t 28],Cv 27 29,Ce 30 27 0,Ce 31 27 1,Cv 8 30,Cv 9 31] (Sq (So [Cv 32 9,Ck 33 .neq 32 0] (Cq 33 (So [⟨none,none,.store 1 (.t 4) (.c (.bool false))⟩] .ret) .skip)) (So [Cl 34 2,Cv 35 8,Nc 36 34,Cf 37 36 0,Cs 1 37 35] (Sq (So [Cf 38 3 3,Cl 39 38,Cf 40 3 4,Cl 41 40,Bs 42 2 [.nils,.nils] [(0,1,(.t 39)),(1,1,(.t 41))],Cc 43 134 [.t 42],Le 44 43,Cm 45 0] (.block 2 (.loop (So [Cb 46 .lss 45 44] (Sq (Cq 46 .skip (.exit 2)) (Sq (.block 3 (So [Cv 47 45,Ci 48 1 43 45,Cl 49 48,Cv 10 47,Cv 11 49] (Sq (So [Cv 50 8,Cv 51 11,Cc 52 49 [.t 50,.t 51],Ck 53 .neq 52 1,Cv 54 53,Gfv 55 54 8,Gfv 56 54 11,Gfl 57 54 5,Gfv 58 54 11,Cg 59 54 false (.iaddrS 1 (.t 57) (.t 58)),Gfl 60 54 59,Cg 61 54 false (.callv (.c (.fn (.func 135) [] [])) [.t 55,.t 56,Cz 3,.t 60]),Gfk 62 54 .neq 61 0,Pt 63 54 62] (Cq 63 (So [⟨none,none,.store 1 (.t 4) (.c (.bool false))⟩] .ret) .skip)) (So [Cv 64 10,Cf 65 3 3,Cl 66 65,Le 67 66,Cb 68 .lss 64 67] (Cq 68 (.ops [Cl 69 2,Nc 70 69,Cf 71 70 11,Cl 72 71,Cv 73 11,⟨none,none,.mupd .pint (.t 72) (.t 73) (.c (.bool true))⟩]) .skip))))) (.ops [Ck 74 .add 45 1,Cv 45 74]))))))) (Sq (So [Cf 75 3 0,Cl 76 75,Le 77 76,Cm 78 0] (.block 4 (.loop (So [Cb 79 .lss 78 77] (Sq (Cq 79 .skip (.exit 4)) (Sq (.block 5 (So [Ci 80 2 76 78,Cn 81 2 80,Al 13 [Zi,Zi],Cs 2 13 81] (Sq (.drawn [Df 82 13 1,Dl 83 82,Dl 84 2,Dn 85 84,Df 86 85 2,Df 87 86 1,Dl 88 87,⟨Cb 89 .quo 83 88,[83,88]⟩,Dw 14 89] [] []) (Sq Ad0 (Cq 106 (So [⟨none,none,.store 1 (.t 4) (.c (.bool false))⟩] .ret) .skip))))) (.ops [Ck 107 .add 78 1,Cv 78 107]))))))) (Sq (So [Cv 108 8,Cc 109 44 [.t 108,Cz 1]] (.block 6 (.rangeFunc (.t 109) [110,111] tt tu))) (So [⟨none,none,.store 1 (.t 4) (.c (.bool true))⟩] .ret))))))))))⟩
def Akt:CFn:=⟨7,[.cell1 2],(So [Al 2 [.nils]] (So [Cv 3 0,Cj 4 (.mkfn (.func 43) [] [.t 2]),Cc 5 42 [.t 3,.t 4]] (So [Cl 6 2,Cs 1 2 6] .ret)))⟩
def Y0:CC:= .loop (Sq (So [Cv 37 10,Cf 38 9 1,Cl 39 38,Le 40 39,Cb 41 .lss 37 40] (Cq 41 .skip (.exit 2))) (Sq (.block 3 (.ops [Cf 44 9 1,Cl 45 44,Cv 46 10,Cv 47 2,Cv 48 8,Cj 49 (.bin .mul (Cz 7) (.t 48) true .pint),Cb 50 .add 47 49,Cv 51 10,Cj 52 (.bin .mul (Cz 3) (.t 51) true .pint),Cb 53 .add 50 52,Cx 54 .u8 53,Ci 55 1 45 46,Cs 1 55 54])) (.ops [Cv 42 10,Ck 43 .add 42 1,Cv 10 43])))
def Y1:CC:= .ops [Cv 56 7,Cn 57 2 9,Bs 58 1 [Zi,.nils] [(0,2,(.t 57))],Cap 59 2 32 56 58,Cv 7 59]
def U5:CC:= .ops [Cv 15 8,Ck 16 .add 15 1,Cv 8 16]
def N2:CC:=Sq (So [Cv 11 8,Cv 12 1,Le 13 12,Cb 14 .lss 11 13] (Cq 14 .skip (.exit 0))) (Sq (.block 1 (So [Cv 17 1,Cv 18 8,Ci 19 1 17 18,Cl 20 19,Bu 21 [Zi,.nils] [(0,1,(.t 20))],Al 9 [Zi,.nils],Cs 2 9 21] (Sq (So [Cv 22 8,Ck 23 .rem 22 2,Ck 24 .eql 23 0,Cv 25 24,Gfv 26 25 1,Gfv 27 25 8,Cg 28 25 false (.iaddrS 1 (.t 26) (.t 27)),Gfl 29 25 28,Gfk 30 25 .rem 29 5,Gfk 31 25 .neq 30 0,Pt 32 25 31] (Cq 32 (So [Cv 33 0,Cj 34 (.maxmin true (Cz 0) (.t 33)),Cj 35 (.mkslice 1 [Zy] (.t 34) (.t 34)),Cf 36 9 1,Cs 1 36 35] (So [Cm 10 0] (.block 2 Y0))) .skip)) Y1))) U5)
def tw:CC:=So [Cv 60 7,Cv 6 60] .ret
def cf37:CFn:=⟨61,[.tmp 6],(So [Bn 6] (So [Bn 7] (Sq (So [Cm 8 0] (.block 0 (.loop N2))) tw)))⟩
def tx:CC:= .loop (Sq (So [Cv 35 6,Cv 36 5,Cb 37 .lss 35 36] (Cq 37 .skip (.exit 2))) (Sq (.block 3 (Sq (.drawn [Dw 40 1,Dw 41 6,DJ 42 2 40 41,Df 43 42 0,Dl 44 43,Dw 45 1,Dw 46 5,DJ 47 2 45 46,Df 48 47 0,Dl 49 48,⟨Cb 50 .eql 44 49,[44,49]⟩] [] []) (Cq 50 (So [Cm 4 2] .ret) .skip))) (.ops [Cv 38 6,Ck 39 .add 38 1,Cv 6 39])))
def tz:CC:= .ops [Cv 15 5,Ck 16 .add 15 1,Cv 5 16]
def t6:CC:=Sq (So [Cv 11 5,Cv 12 1,Le 13 12,Cb 14 .lss 11 13] (Cq 14 .skip (.exit 0))) (Sq (.block 1 (Sq (Sq (.drawn [Dw 17 1,Dw 18 5,DJ 19 2 17 18,Df 20 19 1,Dl 21 20,⟨Le 22 21,[21]⟩,⟨Ck 23 .gtr 22 0,[22]⟩,Dw 24 23,⟨Gtv 25 24 1,[24,1]⟩,⟨Gtv 26 24 5,[24,5]⟩,⟨Cg 27 24 true (.iaddrS 2 (.t 25) (.t 26)),[24,25,26]⟩,DF 28 24 27 1,DL 29 24 28,⟨Cg 30 24 true (.lenS (.t 29)),[24,29]⟩,DF 31 24 2 0,DL 32 24 31,⟨Gtb 33 24 .neq 30 32,[24,30,32]⟩,⟨Pf 34 24 33,[24,33]⟩] [] []) (Cq 34 (So [Cm 4 2] .ret) .skip)) (So [Cm 6 0] (.block 2 tx)))) tz)
def Ad1:CC:= .drawn [Dw 57 1,Dw 58 7,DJ 59 2 57 58,Df 60 59 0,Dl 61 60,⟨Ck 62 .lss 61 0,[61]⟩,Dw 63 62,⟨Gfv 64 63 1,[63,1]⟩,⟨Gfv 65 63 7,[63,7]⟩,⟨Cg 66 63 false (.iaddrS 2 (.t 64) (.t 65)),[63,64,65]⟩,⟨Gff 67 63 66 0,[63,66]⟩,⟨Gfl 68 63 67,[63,67]⟩,⟨Gff 69 63 2 1,[63,2]⟩,⟨Gfl 70 63 69,[63,69]⟩,⟨Cg 71 63 false (.lenS (.t 70)),[63,70]⟩,⟨Gfb 72 63 .geq 68 71,[63,68,71]⟩,⟨Pt 73 63 72,[63,72]⟩]
 []
 []
def t7:CC:=Sq (So [Cm 7 0] (.block 4 (.loop (Sq (So [Cv 51 7,Cv 52 1,Le 53 52,Cb 54 .lss 51 53] (Cq 54 .skip (.exit 4))) (Sq (.block 5 (Sq Ad1 (Cq 73 (So [Cm 4 3] .ret) .skip))) (.ops [Cv 55 7,Ck 56 .add 55 1,Cv 7 56])))))) (So [Cm 4 0] .ret)
def cf38:CFn:=⟨74,[.tmp 4],(So [Bx 2 2 0,Cm 4 0] (Sq (So [Cv 8 1,Le 9 8,Ck 10 .eql 9 0] (Cq 10 (So [Cm 4 2] .ret) .skip)) (Sq (So [Cm 5 0] (.block 0 (.loop t6))) t7)))⟩
def Aku:CFn:=⟨38,[.cellN 4 2],(So [Bx 2 2 0,Al 4 [Zi,.nils]] (So [Bs 7 0 [] [],Cf 8 2 1,Cl 9 8,Cap 10 1 24 7 9,Cf 11 2 1,Cs 1 11 10] (Sq (So [Cm 5 0] (.block 0 (.loop (Sq (So [Cv 12 5,Cv 13 1,Le 14 13,Cb 15 .lss 12 14] (Cq 15 .skip (.exit 0))) (Sq (.block 1 (So [Cf 18 2 0,Cl 19 18,Cj 20 (.mkslice 1 [Zy] (.t 19) (.t 19)),Cv 6 20] (So [Cv 21 6,Cv 22 1,Cv 23 5,Ci 24 2 22 23,Cf 25 24 1,Cl 26 25,Cj 27 (.copy 1 (.t 21) (.t 26))] (.drawn [Df 28 2 1,Dl 29 28,Dw 30 1,Dw 31 5,DJ 32 2 30 31,Df 33 32 0,Dl 34 33,Dw 35 6,DJ 36 1 29 34] [] [⟨DSt 1 36 35,[],[]⟩])))) (.ops [Cv 16 5,Ck 17 .add 16 1,Cv 5 17])))))) (So [Cn 37 2 2,Cs 2 4 37] .ret))))⟩
def Akv:CFn:=⟨8,[.tmp 4],(So [Bx 3 1 1,Cm 4 0] (So [Cv 5 0,Cj 6 (.mkfn (.func 47) [] [.t 3]),Cc 7 42 [.t 5,.t 6],Cv 4 7] .ret))⟩
def Akw:CFn:=⟨5,[.tmp 2],(So [Cm 2 0] (So [Cv 3 0,Cc 4 42 [.t 3,(.c (.fn (.func 92) [] []))],Cv 2 4] .ret))⟩
def Akx:CFn:=⟨21,[.cell1 4],(So [Al 4 [Zi]] (Sq (So [Cv 5 0,Cj 6 (.bin .eql (.t 5) (.c (.nilp)) true .ptr),Cv 7 6,Gfv 8 7 0,Cg 9 7 false (.nilc (.t 8)),Gff 10 7 9 0,Gfl 11 7 10,Cg 12 7 false (.bin .eql (.t 11) (.c (.nilp)) true .ptr),Pt 13 7 12] (Cq 13 (So [⟨none,none,.store 1 (.t 4) (Cz 1)⟩] .ret) .skip)) (So [Cj 14 (.mkfn (.func 98) [] [.t 4]),⟨none,none,.defer (.t 14) []⟩] (So [Cv 15 1,Cv 16 0,Nc 17 16,Cf 18 17 0,Cl 19 18,Cj 20 (.callv (.t 15) [.t 19])] (So [⟨none,none,.store 1 (.t 4) (Cz 0)⟩] .ret)))))⟩
def Aky:CFn:=⟨44,[],(Sq (.drawn [Dl 6 1,⟨Ck 7 .geq 6 0,[6]⟩,Dw 8 7,DL 9 8 1,⟨Gtv 10 8 0,[8,0]⟩,⟨Cg 11 8 true (.nilc (.t 10)),[8,10]⟩,DF 12 8 11 6,DL 13 8 12] [] [⟨⟨Cg 14 8 true (.callv (.c (.fn (.func 97) [] [])) [.t 13]),[8,13]⟩,[⟨Gtb 15 8 .lss 9 14,[8,9,14]⟩,⟨Pf 16 8 15,[8,15]⟩],[DL 9 8 1]⟩,⟨⟨Cc 17 48 [.t 16,Cz 3],[16]⟩,[],[]⟩]) (So [Cv 18 0,Nc 19 18,Cf 20 19 14,Cl 21 20,Nt 22 21,Cc 23 48 [.t 22,Cz 50]] (Sq (.drawn [Dw 25 0,Dn 26 25,Df 27 26 6,Dl 28 27,Dl 29 1] [] [⟨⟨Cc 30 91 [.t 28,.t 29],[28,29]⟩,[Dw 24 30,De 31 24 0,De 32 24 1,Dw 4 31,Dw 5 32],[]⟩]) (Sq (So [Cv 33 5,Nt 34 33] (Cq 34 (So [Cv 35 0,Nc 36 35,Cf 37 36 2,Cf 38 37 2,Cl 39 38,Cj 40 (.mkslice 1 [Zy] (.t 39) (.t 39)),Cs 1 2 40] .ret) .skip)) (.ops [Cv 41 0,Cv 42 4,Cc 43 52 [.t 41,.t 42],Cs 1 2 43])))))⟩
def Akz:CFn:=⟨8,[],(So [Cv 4 0,Nt 5 4] (Cq 5 (.ops [Cv 6 1,Cj 7 (.mkif 44 (.t 6)),⟨none,none,.panic (.t 7)⟩]) .skip))⟩
def Ak0:CFn:=⟨10,[.tmp 2],(So [Cm 2 0] (Sq (So [Cv 3 0,Cj 4 (.bin .eql (.t 3) (.c (.nilp)) true .ptr)] (Cq 4 (So [Cm 2 0] .ret) .skip)) (So [Cv 5 0,Nc 6 5,Cf 7 6 0,Cf 8 7 0,Cl 9 8,Cv 2 9] .ret)))⟩
def Ak1:CFn:=⟨21,[.tmp 4,.tmp 5],(So [Cm 4 0,Bf 5] (Sq (So [Cv 8 0,Cj 9 (.bin .eql (.t 8) (.c (.nilp)) true .ptr)] (Cq 9 (So [Cm 4 0,Bf 5] .ret) .skip)) (So [Cv 11 0,Nc 12 11,Cf 13 12 3,Cl 14 13,Cv 15 1,Cj 16 (.lookup .pint Zi (.t 14) (.t 15) true),Cv 10 16,Ce 17 10 0,Ce 18 10 1,Cv 6 17,Cv 7 18] (So [Cv 19 6,Cv 20 7,Cv 4 19,Cv 5 20] .ret))))⟩
def Ak2:CFn:=⟨39,[.tmp 4],(So [Bn 4] (Sq (.drawn [Dw 9 0,Dn 10 9,Df 11 10 1,Dl 12 11,Dw 13 1,Dw 14 0,Dn 15 14,Df 16 15 2,Df 17 16 1,Dl 18 17,⟨Cb 19 .quo 13 18,[13,18]⟩,Dw 20 1,Dw 21 0,Dn 22 21,Df 23 22 2,Df 24 23 1,Dl 25 24,⟨Cb 26 .rem 20 25,[20,25]⟩] [] [⟨⟨Cc 27 23 [.t 12,.t 19,.t 26],[12,19,26]⟩,[Dw 8 27,De 28 8 0,De 29 8 1,De 30 8 2,Dw 5 28,Dw 6 29,Dw 7 30],[]⟩]) (So [Cv 31 0,Cv 32 7,Cc 33 105 [.t 31,.t 32]] (So [Cv 34 7,Ck 35 .eql 34 0,Cv 36 7,Cc 37 48 [.t 35,.t 36]] (So [Cv 38 5,Cv 4 38] .ret)))))⟩
def Ak3:CFn:=⟨8,[],(.ops [Cv 3 0,Nc 4 3,Cf 5 4 6,Cl 6 5,Cc 7 56 [.t 6],Cs 1 1 7])⟩
def Ak4:CFn:=⟨58,[],(So [Cv 8 0,Cl 9 1,Cl 10 1,Le 11 10,Cl 12 1,Le 13 12,Cj 14 (.sliceS 2 (.t 9) none (some (.t 11)) (some (.t 13))),Cc 15 90 [.t 8,.t 14]] (So [Bn 3] (Sq (So [Cl 16 1,Le 17 16,Cm 18 0] (.block 0 (.loop (So [Cb 19 .lss 18 17] (Sq (Cq 19 .skip (.exit 0)) (Sq (.block 1 (So [Ci 20 2 16 18,Cn 21 2 20,Al 5 [Zi,.nils],Cs 2 5 21] (Sq (.drawn [Dw 23 0,Dn 24 23,Df 25 24 6,Dl 26 25,Df 27 5 0,Dl 28 27] [] [⟨⟨Cc 29 91 [.t 26,.t 28],[26,28]⟩,[Dw 22 29,De 30 22 0,De 31 22 1,Dw 6 30,Dw 7 31],[]⟩]) (.block 2 (So [Cf 33 5 1,Cl 34 33,Le 35 34,Ck 36 .gtr 35 0,Cv 32 36] (Cq 32 (.ops [Cv 37 3,Cv 38 0,Cf 39 5 0,Cl 40 39,Cf 41 5 1,Cl 42 41,Cc 43 51 [.t 38,.t 40,.t 42],Bs 44 1 [Zi,Zi] [(0,2,(.t 43))],Cap 45 2 16 37 44,Cv 3 45]) (So [Cv 47 7,Cv 46 47] (Cq 46 (.ops [Cv 48 3,Cf 49 5 0,Cl 50 49,Bu 51 [Zi,Zi] [(0,1,(.t 50)),(1,1,(.c (.int .i64 (-1))))],Bs 52 1 [Zi,Zi] [(0,2,(.t 51))],Cap 53 2 16 48 52,Cv 3 53]) .skip)))))))) (.ops [Ck 54 .add 18 1,Cv 18 54]))))))) (.ops [Cv 55 0,Cv 56 3,Cc 57 53 [.t 55,.t 56]]))))⟩
def Ag7:CC:= .drawn [Df 20 6 1,Dl 21 20,⟨Le 22 21,[21]⟩,⟨Ck 23 .eql 22 0,[22]⟩,Dw 24 23,⟨Gff 25 24 6 1,[24,6]⟩,⟨Gfl 26 24 25,[24,25]⟩,⟨Cg 27 24 false (.lenS (.t 26)),[24,26]⟩,⟨Gfv 28 24 0,[24,0]⟩,⟨Cg 29 24 false (.nilc (.t 28)),[24,28]⟩,⟨Gff 30 24 29 2,[24,29]⟩,⟨Gff 31 24 30 2,[24,30]⟩,⟨Gfl 32 24 31,[24,31]⟩,⟨Gfb 33 24 .eql 27 32,[24,27,32]⟩,⟨Pt 34 24 33,[24,33]⟩]
 []
 [⟨⟨Cc 35 48 [.t 34,Cz 2],[34]⟩,[],[]⟩]
def Ad2:CC:= .drawn [Df 54 8 0,Dl 55 54,⟨Ck 56 .geq 55 0,[55]⟩,Dw 57 56,DF 58 57 8 0,DL 59 57 58,⟨Gtv 60 57 0,[57,0]⟩,⟨Cg 61 57 true (.nilc (.t 60)),[57,60]⟩,DF 62 57 61 6,DL 63 57 62]
 []
 [⟨⟨Cg 64 57 true (.callv (.c (.fn (.func 97) [] [])) [.t 63]),[57,63]⟩,[⟨Gtb 65 57 .lss 59 64,[57,59,64]⟩,⟨Pf 66 57 65,[57,65]⟩],[DF 58 57 8 0,DL 59 57 58]⟩,⟨⟨Cc 67 48 [.t 66,Cz 3],[66]⟩,[],[]⟩]
def Ak5:CFn:=⟨75,[],(So [Cv 9 1,Le 10 9,Ck 11 .gtr 10 0,Cc 12 48 [.t 11,Cz 2]] (So [Mk0 13,Cv 4 13] (Sq (So [Cv 14 1,Le 15 14,Cm 16 0] (.block 0 (.loop (So [Cb 17 .lss 16 15] (Sq (Cq 17 .skip (.exit 0)) (Sq (.block 1 (So [Ci 18 2 14 16,Cn 19 2 18,Al 6 [Zi,.nils],Cs 2 6 19] (Sq Ag7 (So [Cv 36 4,Cf 37 6 0,Cl 38 37,Cj 39 (.lookup .pint Zi (.t 36) (.t 38) false),Ck 40 .add 39 1,⟨none,none,.mupd .pint (.t 36) (.t 38) (.t 40)⟩] (.ops [Cv 41 4,Cf 42 6 0,Cl 43 42,Cj 44 (.lookup .pint Zi (.t 41) (.t 43) false),Ck 45 .eql 44 1,Cc 46 48 [.t 45,Cz 2]]))))) (.ops [Ck 47 .add 16 1,Cv 16 47]))))))) (Sq (So [Cv 48 1,Le 49 48,Cm 50 0] (.block 2 (.loop (So [Cb 51 .lss 50 49] (Sq (Cq 51 .skip (.exit 2)) (Sq (.block 3 (So [Ci 52 2 48 50,Cn 53 2 52,Al 8 [Zi,.nils],Cs 2 8 53] Ad2)) (.ops [Ck 68 .add 50 1,Cv 50 68]))))))) (.ops [Cv 69 0,Nc 70 69,Cf 71 70 14,Cl 72 71,Nt 73 72,Cc 74 48 [.t 73,Cz 50]])))))⟩
def Ak6:CFn:=⟨44,[.cellN 6 2],(So [Al 6 [Zi,Zi]] (So [Cv 9 0,Nc 10 9,Cf 11 10 7,Cl 12 11,Cv 7 12] (So [Cv 13 0,Nc 14 13,Cf 15 14 7,Cl 16 15,Cj 17 (.bin .add (.t 16) (.c (UN 1)) true .pint),Nc 18 13,Cf 19 18 7,Cs 1 19 17] (So [Cv 20 0,Cv 21 0,Nc 22 21,Cf 23 22 9,Cv 24 1,Cv 25 7,Bu 26 [Zy,Zi,Zu,Zu,Zi,Zi] [(0,1,(.c (.int .u8 ((1:Nat):Int)))),(1,1,(.t 24)),(2,1,(.t 25)),(5,1,(Cz 1))],Cv 27 2,Cc 28 104 [.t 20,.t 23,.t 26,.t 27],Cv 8 28] (Sq (.drawn [Dw 29 0,Dn 30 29,Df 31 30 13,Dl 32 31,Dw 33 8,Dw 34 0,Dn 35 34,Df 36 35 2,Df 37 36 1,Dl 38 37,⟨Cb 39 .quo 33 38,[33,38]⟩,Dw 40 7] [] [⟨⟨⟨none,none,.mupd .pint (.t 32) (.t 39) (.t 40)⟩,[32,39,40]⟩,[],[]⟩]) (So [Cv 41 1,Cv 42 8,Bu 43 [Zi,Zi] [(0,1,(.t 41)),(1,1,(.t 42))],Cs 2 6 43] .ret))))))⟩
def Ak7:CFn:=⟨21,[],(Sq (So [Cv 5 1,Le 6 5,Ck 7 .eql 6 0] (Cq 7 .ret .skip)) (So [Cv 8 0,Cv 9 1,Cc 10 95 [.t 8,(.c (.int .u8 ((2:Nat):Int))),.t 9]] (So [Cv 11 0,Nc 12 11,Cf 13 12 6,Cl 14 13,Cv 15 1,Cc 16 22 [.t 14,.t 15],Cv 4 16] (.ops [Cv 17 4,Ck 18 .eql 17 0,Cv 19 4,Cc 20 48 [.t 18,.t 19]]))))⟩
def Ak8:CFn:=⟨23,[.tmp 6],(So [Bf 6] (So [Cv 7 0,Cv 8 1,Cc 9 58 [.t 7,.t 8],Cv 10 9,Gtv 11 10 2,Gtk 12 10 .geq 11 0,Pf 13 10 12,Cv 14 13,Gtv 15 14 2,Gtv 16 14 0,Cg 17 14 true (.nilc (.t 16)),Gtf 18 14 17 0,Gtf 19 14 18 1,Gtl 20 14 19,Gtb 21 14 .lss 15 20,Pf 22 14 21,Cv 6 22] .ret))⟩
def Ad3:CC:= .ops [Bx 4 1 0,Bx 7 1 3,Cm 8 0]
def Ad4:CC:= .ops [Cl 11 4,Nc 12 11,Cf 13 12 5,Cl 14 13,Cv 15 1,Ci 16 3 14 15,Cv 9 16]
def Ad5:CC:= .ops [Cv 17 9,Nc 18 17,Cf 19 18 1,Cl 20 19,Ck 21 .add 20 1,Nc 22 17,Cf 23 22 1,Cs 1 23 21]
def Ad6:CC:= .ops [Cv 24 9,Nc 25 24,Cf 26 25 0,Cl 27 26,Cv 28 2,Ci 29 2 27 28,Al 10 [.nilp],Cs 1 10 29]
def Ad7:CC:= .ops [Cl 30 4,Cj 31 (.mkfn (.func 196) [] [.t 7,.t 10]),Cj 32 (.mkfn (.func 197) [] [.t 10]),Cj 33 (.mkfn (.func 198) [] [.t 7,.t 10,.t 4]),Cc 34 176 [.t 30,.t 31,.t 32,.t 33,Cz 54],Cv 8 34]
def Ad8:CC:=Sq Ad7 .ret
def Ad9:CC:=Sq Ad6 Ad8
def Aea:CC:=Sq Ad5 Ad9
def Aeb:CC:=Sq Ad4 Aea
def Aec:CC:=Sq Ad3 Aeb
def Ag8:CFn:=⟨35,[.tmp 8],Aec⟩
def Ag9:CFn:=⟨36,[.tmp 2],(So [Bn 2] (So [Cm 3 0] (Sq (So [Cv 9 0,Le 10 9,Cm 11 0] (.block 0 (.loop (So [Cb 12 .lss 11 10] (Sq (Cq 12 .skip (.exit 0)) (Sq (.block 1 (So [Ci 13 1 9 11,Cl 14 13,Cv 5 14] (So [Cv 15 3,Cv 16 5,Le 17 16,Cb 18 .add 15 17,Cv 3 18] (So [Cv 19 3,Ck 20 .lss 19 0] (Cq 20 (.ops [Cj 21 (.mkif 9 (.c (.str [108,101,110,32,111,117,116,32,111,102,32,114,97,110,103,101]))),⟨none,none,.panic (.t 21)⟩]) .skip))))) (.ops [Ck 22 .add 11 1,Cv 11 22]))))))) (So [Cv 23 3,Cc 24 156 [(.c (.nils)),.t 23],Cv 6 24] (Sq (So [Cv 25 0,Le 26 25,Cm 27 0] (.block 2 (.loop (So [Cb 28 .lss 27 26] (Sq (Cq 28 .skip (.exit 2)) (Sq (.block 3 (So [Ci 29 1 25 27,Cl 30 29,Cv 8 30] (.ops [Cv 31 6,Cv 32 8,Cap 33 1 1 31 32,Cv 6 33]))) (.ops [Ck 34 .add 27 1,Cv 27 34]))))))) (So [Cv 35 6,Cv 2 35] .ret))))))⟩
def Aed:CC:= .drawn [Dl 2 0,Dl 3 1,Dn 4 3,Df 5 4 0,Df 6 5 1,Dl 7 6]
 []
 [⟨⟨Cc 8 84 [.t 2,.t 7,Cz 5],[2,7]⟩,[],[]⟩]
def Aha:CFn:=⟨9,[],Aed⟩
def Ahb:CFn:=⟨47,[.tmp 10],(So [Cm 10 0] (So [Cv 12 0,Nc 13 12,Cf 14 13 6,Cl 15 14,Cv 11 15] (So [Cv 16 0,Nc 17 16,Cf 18 17 6,Cl 19 18,Ck 20 .add 19 1,Nc 21 16,Cf 22 21 6,Cs 1 22 20] (Sq (.block 0 (So [Cv 24 11,Cv 25 0,Nc 26 25,Cf 27 26 7,Cl 28 27,Cb 29 .eql 24 28,Cv 23 29] (Cq 23 (So [Cv 30 0,Nc 31 30,Cf 32 31 9,⟨none,none,.store 1 (.t 32) (.c (.bool true))⟩] (So [Cv 33 3,Cj 34 (.callv (.t 33) [])] (So [Cm 10 50] .ret))) (So [Cv 36 0,Nc 37 36,Cf 38 37 4,Cl 39 38,Cv 40 11,Cj 41 (.lookup .pint (.bool false) (.t 39) (.t 40) false),Cv 35 41] (Cq 35 (So [Cv 42 2,Cj 43 (.callv (.t 42) [])] (So [Cv 44 4,Cv 10 44] .ret)) .skip))))) (So [Cv 45 1,Cj 46 (.callv (.t 45) [])] (So [Cm 10 0] .ret))))))⟩
def Ahc:CFn:=⟨9,[],(.drawn [Dl 2 0,Dl 3 1,Dn 4 3,Df 5 4 0,Df 6 5 1,Dl 7 6] [] [⟨⟨Cc 8 84 [.t 2,.t 7,Cz 1],[2,7]⟩,[],[]⟩])⟩
def Aee:CC:= .drawn [Df 48 9 0,Df 49 48 0,Dl 50 49,Dw 51 10,Dw 52 10,⟨Cj 53 (.sliceS 1 (.t 50) none (some (.t 51)) (some (.t 52))),[50,51,52]⟩,Df 55 9 0,Df 56 55 0,Dl 57 56,Dw 58 10,⟨Cj 59 (.sliceS 1 (.t 57) (some (.t 58)) none none),[57,58]⟩]
 []
 [⟨⟨Cc 54 63 [.t 53],[53]⟩,[],[Df 55 9 0,Df 56 55 0,Dl 57 56,Dw 58 10,⟨Cj 59 (.sliceS 1 (.t 57) (some (.t 58)) none none),[57,58]⟩]⟩,⟨⟨Cc 60 63 [.t 59],[59]⟩,[Dw 6 54,Dw 7 60,⟨Cm 8 0,[]⟩],[]⟩]
def Ak9:CFn:=⟨61,[.tmp 6,.tmp 7,.tmp 8],(So [Bn 6,Bn 7,Cm 8 0] (Sq (.block 0 (So [Cv 12 0,Cc 13 57 [.t 12],Cv 11 13] (Cq 11 (So [Bn 6,Bn 7,Cm 8 1] .ret) (So [Cv 15 0,Cv 16 1,Cv 17 2,Cc 18 62 [.t 15,.t 16,.t 17],Nt 19 18,Cv 14 19] (Cq 14 (So [Bn 6,Bn 7,Cm 8 2] .ret) (So [Cv 21 0,Nc 22 21,Cf 23 22 9,Cl 24 23,Cv 20 24] (Cq 20 (So [Bn 6,Bn 7,Cm 8 50] .ret) .skip))))))) (So [Cv 25 0,Nc 26 25,Cf 27 26 5,Cl 28 27,Cv 29 1,Ci 30 3 28 29,Cf 31 30 0,Cl 32 31,Cv 33 2,Ci 34 2 32 33,Cn 35 2 34,Al 9 [.nils,Zi],Cs 2 9 35] (Sq (So [Cf 36 9 1,Cl 37 36] (.block 1 (So [Ck 39 .eql 37 1,Cv 38 39] (Cq 38 (So [Bn 6,Bn 7,Cm 8 52] .ret) (Sq (So [Ck 41 .eql 37 4,Cv 40 41] (Cq 40 .skip (.ops [Ck 42 .eql 37 5,Cv 40 42]))) (Cq 40 (So [Bn 6,Bn 7,Cm 8 53] .ret) .skip)))))) (So [Cv 43 0,Nc 44 43,Cf 45 44 0,Cf 46 45 2,Cl 47 46,Cv 10 47] (Sq Aee .ret))))))⟩
def Ala:CFn:=⟨102,[.cellN 4 6,.cell1 5],(So [Al 4 [Zy,Zi,Zu,Zu,Zi,Zi],Al 5 [Zi]] (So [Cj 16 (.mkfn (.func 64) [] [.t 4,.t 5]),⟨none,none,.defer (.t 16) []⟩] (So [Cv 17 0,Le 18 17,Ck 19 .eql 18 64,Cc 20 65 [.t 19,Cz 2]] (So [Cv 21 0,Cc 22 66 [.t 21],Al 6 [.nilp],Cs 1 6 22] (So [Cj 23 (.mkfn (.func 67) [] [.t 6]),Cv 7 23] (So [Cj 24 (.mkfn (.func 69) [] [.t 6]),Cv 8 24] (So [Cv 26 0,Cj 27 (.sliceS 1 (.t 26) (some (Cz 60)) none none),Cc 28 70 [.t 27],Cv 25 28,Ce 29 25 0,Ce 30 25 1,Cv 9 29,Cv 10 30] (So [Cv 31 10,Ck 32 .eql 31 0,Cv 33 32,Gtv 34 33 9,Gtv 35 33 1,Gtv 36 33 0,Cg 37 33 true (.callv (.c (.fn (.func 71) [] [])) [.t 35,.t 36]),Gtb 38 33 .eql 34 37,Pf 39 33 38,Cc 40 65 [.t 39,Cz 10]] (So [Cv 41 7,Cj 42 (.callv (.t 41) [Cz 4]),Ck 43 .eql 42 1280591427,Cc 44 65 [.t 43,Cz 6]] (So [Cv 45 7,Cj 46 (.callv (.t 45) [Cz 1]),Cx 47 .u8 46,Cf 48 4 0,Cs 1 48 47] (So [Cl 49 6,Cc 50 72 [.t 49,Cz 3],Ck 51 .eql 50 0,Cc 52 65 [.t 51,Cz 6]] (Sq (So [Cf 53 4 2,Cf 54 4 3,Bs 55 2 [.nilp,.nilp] [(0,1,(.t 53)),(1,1,(.t 54))],Le 56 55,Cm 57 0] (.block 0 (.loop (So [Cb 58 .lss 57 56] (Sq (Cq 58 .skip (.exit 0)) (Sq (.block 1 (So [Cv 59 57,Ci 60 1 55 57,Cl 61 60,Cv 11 59,Cv 12 61] (So [Cl 62 6,Cc 63 73 [.t 62],Cv 64 11,Cj 65 (.bin .mul (Cz 8) (.t 64) true .pint),Cj 66 (.bin .add (Cz 8) (.t 65) true .pint),Cb 67 .eql 63 66,Cc 68 65 [.t 67,Cz 6]] (.ops [Cv 69 12,Cv 70 8,Cj 71 (.callv (.t 70) []),Nc 72 69,Cs 1 72 71])))) (.ops [Ck 73 .add 57 1,Cv 57 73]))))))) (Sq (So [Cf 74 4 1,Cf 75 4 4,Cf 76 4 5,Bs 77 3 [.nilp,.nilp,.nilp] [(0,1,(.t 74)),(1,1,(.t 75)),(2,1,(.t 76))],Le 78 77,Cm 79 0] (.block 2 (.loop (So [Cb 80 .lss 79 78] (Sq (Cq 80 .skip (.exit 2)) (Sq (.block 3 (So [Ci 81 1 77 79,Cl 82 81,Cv 14 82] (.ops [Cv 83 14,Cv 84 7,Cj 85 (.callv (.t 84) [Cz 4]),Nc 86 83,Cs 1 86 85]))) (.ops [Ck 87 .add 79 1,Cv 79 87]))))))) (So [Cl 88 6,Cj 89 (.mkfn (.func 72) [.t 88] []),Cv 15 89] (So [Cv 90 15,Cl 91 6,Cc 92 73 [.t 91],Cj 93 (.bin .sub (Cz 60) (.t 92) true .pint),Cj 94 (.callv (.t 90) [.t 93]),Ck 95 .eql 94 0,Cv 96 95,Cg 97 96 true (.loadN 6 (.t 4)),Cg 98 96 true (.callv (.c (.fn (.func 74) [] [])) [.t 97]),Pf 99 96 98,Cc 100 65 [.t 99,Cz 6]] (So [Cn 101 6 4,Cs 6 4 101,⟨none,none,.store 1 (.t 5) (Cz 0)⟩] .ret))))))))))))))))⟩
def Alb:CFn:=⟨62,[.cell1 2,.cell1 3],(So [Al 2 [.nils],Al 3 [Zi]] (So [Cj 9 (.mkfn (.func 119) [] [.t 2,.t 3]),⟨none,none,.defer (.t 9) []⟩] (So [Cv 10 0,Le 11 10,Cc 12 86 [.t 11],Cv 4 12] (So [Cv 13 4,Ck 14 .gtr 13 0,Cc 15 120 [.t 14,Cz 2]] (So [Cv 16 0,Cc 17 66 [.t 16],Cv 5 17] (So [Cv 18 5,Cc 19 68 [.t 18,Cz 4],Ce 20 19 0,Ce 21 19 1,Cc 22 121 [.t 20,.t 21],Cx 23 .i64 22,Cv 6 23] (So [Cv 24 6,Cv 25 4,Cb 26 .leq 24 25,Cc 27 120 [.t 26,Cz 6]] (Sq (So [Cv 28 6,Cm 29 0] (.block 0 (.loop (So [Cb 30 .lss 29 28] (Sq (Cq 30 .skip (.exit 0)) (Sq (.block 1 (So [Cv 31 5,Cc 32 68 [.t 31,Cz 4],Ce 33 32 0,Ce 34 32 1,Cc 35 121 [.t 33,.t 34],Cx 36 .i64 35,Cv 7 36] (So [Cv 37 7,Cv 38 5,Cc 39 68 [.t 38,Cz 4],Ce 40 39 0,Ce 41 39 1,Cc 42 121 [.t 40,.t 41],Cx 43 .i64 42,Ck 44 .sub 43 1,Bu 45 [Zi,Zi] [(0,1,(.t 37)),(1,1,(.t 44))],Al 8 [Zi,Zi],Cs 2 8 45] (So [Cn 46 2 8,Cc 47 122 [.t 46],Nt 48 47,Cc 49 120 [.t 48,Cz 6]] (.ops [Cl 50 2,Cn 51 2 8,Bs 52 1 [Zi,Zi] [(0,2,(.t 51))],Cap 53 2 16 50 52,Cs 1 2 53]))))) (.ops [Ck 54 .add 29 1,Cv 29 54]))))))) (So [Cv 55 5,Cv 56 5,Cc 57 123 [.t 56],Cc 58 72 [.t 55,.t 57],Ck 59 .eql 58 0,Cc 60 120 [.t 59,Cz 6]] (So [Cl 61 2,Cs 1 2 61,⟨none,none,.store 1 (.t 3) (Cz 0)⟩] .ret))))))))))⟩
def t8:CC:= .loop (So [Cb 23 .lss 22 21] (Sq (Cq 23 .skip (.exit 0)) (Sq (.block 1 (So [Cv 24 22,Ci 25 7 20 22,Cn 26 7 25,Al 5 [Zy,Zi,Zu,Zu,Zi,Zi,.nils],Cv 4 24,Cs 7 5 26] (So [Cf 28 5 0,Cn 29 6 28,Cc 30 124 [.t 29],Cv 27 30,Ce 31 27 0,Ce 32 27 1,Al 6 [Zy,Zu,Zu,Zi],Cs 4 6 31,Cv 7 32] (Sq (So [Cv 33 7,Nt 34 33] (Cq 34 (.exit 1) .skip)) (So [Cl 36 3,Cn 37 4 6,Cj 38 (.lookup (.agg [(0,0,.pint),(1,0,.pint),(2,0,.pint),(3,0,.pint)]) (.agg [.nilm,Zi]) (.t 36) (.t 37) true),Cv 35 38,Ce 39 35 0,Ce 40 35 1,Al 8 [.nilm,Zi],Cs 2 8 39,Cv 9 40] (Sq (So [Cv 41 9,Nt 42 41] (Cq 42 (So [Mk0 43,Cv 44 4,Bu 45 [.nilm,Zi] [(0,1,(.t 43)),(1,1,(.t 44))],Cs 2 8 45] (.ops [Cl 46 3,Cn 47 4 6,Cn 48 2 8,⟨none,none,.mupd (.agg [(0,0,.pint),(1,0,.pint),(2,0,.pint),(3,0,.pint)]) (.t 46) (.t 47) (.t 48)⟩])) .skip)) (So [Cf 50 8 0,Cl 51 50,Cf 52 5 0,Cf 53 52 4,Cl 54 53,Cj 55 (.lookup .pint Zi (.t 51) (.t 54) true),Cv 49 55,Ce 56 49 0,Ce 57 49 1,Cv 10 56,Cv 11 57] (So [Cv 58 11,Nt 59 58] (Cq 59 (.ops [Cf 60 8 0,Cl 61 60,Cf 62 5 0,Cf 63 62 4,Cl 64 63,Cv 65 4,⟨none,none,.mupd .pint (.t 61) (.t 64) (.t 65)⟩]) .skip))))))))) (.ops [Ck 66 .add 22 1,Cv 22 66]))))
def t9:CC:= .block 3 (Sq (So [Cv 85 16,Nt 86 85] (Cq 86 (.exit 2) .skip)) (Sq (So [Cf 87 15 3,Cl 88 87,Cm 89 0] (.block 4 (.loop (So [Cb 90 .lss 89 88] (Sq (Cq 90 .skip (.exit 4)) (Sq (.block 5 (So [Cv 91 89,Cv 17 91] (So [Cl 92 3,Cn 93 4 15,Cj 94 (.lookup (.agg [(0,0,.pint),(1,0,.pint),(2,0,.pint),(3,0,.pint)]) (.agg [.nilm,Zi]) (.t 92) (.t 93) false),Cj 95 (.field1 (.t 94) 0),Cv 96 17,Cj 97 (.lookup .pint Zi (.t 95) (.t 96) false),Cv 18 97] (Sq (.drawn [Df 98 2 0,Dl 99 98,Dw 100 0,Dw 101 18,DJ 102 7 100 101,Df 103 102 6,Dl 104 103] [] [⟨⟨Cap 105 2 16 99 104,[99,104]⟩,[Df 106 2 0],[]⟩,⟨DSt 1 106 105,[],[]⟩]) (.ops [Cf 107 2 2,Cl 108 107,Cv 109 18,Bs 110 1 [Zi] [(0,1,(.t 109))],Cap 111 1 8 108 110,Cf 112 2 2,Cs 1 112 111]))))) (.ops [Ck 113 .add 89 1,Cv 89 113]))))))) (So [Cf 114 15 1,Cl 115 114,Cf 116 15 3,Cl 117 116,Cx 118 .u64 117,Cb 119 .add 115 118,Cj 120 (.bin .sub (.t 119) (.c (UN 1)) true .pint),Cf 121 2 1,Cs 1 121 120] (.ops [Cl 123 3,Cv 124 14,Cv 125 12,Cc 126 128 [.t 123,.t 124,.t 125],Cv 122 126,Ce 127 122 0,Ce 128 122 1,Cs 4 15 127,Cv 16 128]))))
def ua:CC:= .loop t9
def uc:CC:=So [Cf 129 2 2,Cl 130 129,Cc 131 129 [.t 130]] (So [Cn 132 3 2,Cs 3 2 132] .ret)
def ud:CC:=So [Cj 67 (.mkfn (.func 125) [] [.t 3]),Cv 12 67] (So [Cj 13 (.mv (.c (.fn (.func 126) [] [])))] (So [Cj 68 (.mkfn (.func 127) [] [.t 2]),Cv 14 68] (So [Cl 70 3,Cv 71 13,Cv 72 12,Cc 73 128 [.t 70,.t 71,.t 72],Cv 69 73,Ce 74 69 0,Ce 75 69 1,Al 15 [Zy,Zu,Zu,Zi],Cs 4 15 74,Cv 16 75] (Sq (So [Cv 76 16,Nt 77 76] (Cq 77 (.ops [Cl 79 3,Cv 80 14,Cv 81 12,Cc 82 128 [.t 79,.t 80,.t 81],Cv 78 82,Ce 83 78 0,Ce 84 78 1,Cs 4 15 83,Cv 16 84]) .skip)) (Sq (.label 0) (Sq (.block 2 ua) uc))))))
def Y2:CC:=So [Mk0 19,Al 3 [.nilm],Cs 1 3 19] (Sq (So [Cv 20 0,Le 21 20,Cm 22 0] (.block 0 t8)) ud)
def cf79:CFn:=⟨133,[.cellN 2 3],(So [Al 2 [.nils,Zu,.nils]] (.scope Y2))⟩
def Alc:CFn:=⟨12,[.tmp 2],(So [Bf 2] (So [Cv 3 0,Cj 4 (.bin .eql (.t 3) (.c (.nilp)) true .ptr),Cv 5 4,Gfv 6 5 0,Cg 7 5 false (.nilc (.t 6)),Gff 8 5 7 3,Gfl 9 5 8,Cg 10 5 false (.bin .eql (.t 9) (.c (.nilm)) true .nilM),Pt 11 5 10,Cv 2 11] .ret))⟩
def Ald:CFn:=⟨32,[],(So [Cj 7 (.recover),Cv 5 7] (So [Cv 8 5,Cj 9 (.bin .neq (.t 8) (.c (.nili)) true .iface)] (Cq 9 (So [Cv 10 5,Cj 11 (.tassert (.t 10) 44 Zi false),Cs 1 0 11] (So [Cl 12 1,Ck 13 .sub 12 1,Cv 6 13] (.block 0 (.loop (Sq (So [Cv 14 6,Ck 15 .geq 14 0] (Cq 15 .skip (.exit 0))) (Sq (.block 1 (Sq (.drawn [Dl 18 2,Dl 19 3,Dw 20 6,DJ 21 2 19 20,Df 22 21 0,Dl 23 22,⟨Bu 24 [Zi,Zi] [(0,1,(.t 23)),(1,1,(.c (.int .i64 (-1))))],[23]⟩] [] [⟨⟨Cc 25 61 [.t 18,.t 24],[18,24]⟩,[],[]⟩]) (.drawn [Dl 26 2,Dl 27 4,Dw 28 6,DJ 29 2 27 28,DN 30 2 29] [] [⟨⟨Cc 31 61 [.t 26,.t 30],[26,30]⟩,[],[]⟩]))) (.ops [Cv 16 6,Ck 17 .sub 16 1,Cv 6 17]))))))) .skip)))⟩
def Aef:CC:= .drawn [Dw 71 0,Dn 72 71,Df 73 72 3,Dl 74 73,Df 75 3 0,Dl 76 75,Dw 77 0,Dn 78 77,Df 79 78 4,Dl 80 79,Df 81 3 1,Dl 82 81,Df 83 3 1,Dl 84 83,Df 85 3 0,Dl 86 85]
 []
 [⟨⟨Cj 87 (.ment .pint Zi (.t 74) (.t 76)),[74,76]⟩,[De 88 87 1],[Df 81 3 1,Dl 82 81,Df 83 3 1,Dl 84 83,Df 85 3 0,Dl 86 85]⟩,⟨⟨⟨none,none,.mstore (.t 74) (.t 88) (.t 84)⟩,[74,88,84]⟩,[],[Df 81 3 1,Dl 82 81,Df 85 3 0,Dl 86 85]⟩,⟨⟨Cj 89 (.ment .pint Zi (.t 80) (.t 82)),[80,82]⟩,[De 90 89 1],[Df 85 3 0,Dl 86 85]⟩,⟨⟨⟨none,none,.mstore (.t 80) (.t 90) (.t 86)⟩,[80,90,86]⟩,[],[]⟩]
def Ale:CFn:=⟨107,[],(So [Bx 3 2 1] (Sq (.drawn [Dw 8 0,Dn 9 8,Df 10 9 0,DN 11 3 10,DN 12 2 3] [] [⟨⟨Cc 13 111 [.t 11,.t 12],[11,12]⟩,[],[]⟩,⟨⟨Cc 14 110 [.t 13,Cz 3],[13]⟩,[],[]⟩]) (Sq (Sq (.drawn [Dw 16 0,Dn 17 16,Df 18 17 4,Dl 19 18,Df 20 3 1,Dl 21 20,⟨Cj 22 (.lookup .pint Zi (.t 19) (.t 21) true),[19,21]⟩,Dw 15 22,De 23 15 0,De 24 15 1,Dw 4 23,Dw 5 24] [] []) (So [Cv 25 5] (Cq 25 (.ops [Cv 26 4,Cf 27 3 0,Cl 28 27,Cb 29 .eql 26 28,Cc 30 110 [.t 29,Cz 11]]) .skip))) (Sq (Sq (.drawn [Dw 32 0,Dn 33 32,Df 34 33 3,Dl 35 34,Df 36 3 0,Dl 37 36,⟨Cj 38 (.lookup .pint Zi (.t 35) (.t 37) true),[35,37]⟩,Dw 31 38,De 39 31 0,De 40 31 1,Dw 6 39,Dw 7 40] [] []) (So [Cv 41 7] (Cq 41 (Sq (.drawn [Dw 42 0,Dn 43 42,Df 44 43 3,Dl 45 44,Df 46 3 0,Dl 47 46] [] [⟨⟨⟨none,none,.delete .pint (.t 45) (.t 47)⟩,[45,47]⟩,[],[]⟩]) (So [Cv 48 0,Nc 49 48,Cf 50 49 4,Cl 51 50,Cv 52 6,⟨none,none,.delete .pint (.t 51) (.t 52)⟩] (.drawn [Dw 53 0,Dn 54 53,Df 55 54 5,Dl 56 55,Dw 57 6,Dw 58 0,Dn 59 58,Df 60 59 0,Df 61 60 2,Dl 62 61,⟨Cb 63 .quo 57 62,[57,62]⟩,DJ 64 1 56 63,Dl 65 64,⟨Ck 66 .sub 65 1,[65]⟩,DJ 67 1 56 63] [] [⟨DSt 1 67 66,[],[]⟩]))) .skip))) (So [Cf 68 3 1,Cl 69 68,Ck 70 .geq 69 0] (Cq 70 (Sq Aef (.drawn [Dw 91 0,Dn 92 91,Df 93 92 5,Dl 94 93,Df 95 3 1,Dl 96 95,Dw 97 0,Dn 98 97,Df 99 98 0,Df 100 99 2,Dl 101 100,⟨Cb 102 .quo 96 101,[96,101]⟩,DJ 103 1 94 102,Dl 104 103,⟨Ck 105 .add 104 1,[104]⟩,DJ 106 1 94 102] [] [⟨DSt 1 106 105,[],[]⟩])) .skip))))))⟩
def Ahd:CFn:=⟨34,[.tmp 2],(So [Cj 2 (.mv (.c (.nilf)))] (Sq (So [Cv 7 0,Cc 8 59 [.t 7]] (Cq 8 (So [Cc 9 103 [(.c (.nils)),(.c (.nils))],Cv 2 9] .ret) .skip)) (So [Cv 10 0,Nc 11 10,Cf 12 11 3,Cl 13 12,Cc 14 151 [.t 13],Cv 3 14] (So [Bn 4] (Sq (So [Cv 15 3,Le 16 15,Cm 17 0] (.block 0 (.loop (So [Cb 18 .lss 17 16] (Sq (Cq 18 .skip (.exit 0)) (Sq (.block 1 (So [Ci 19 1 15 17,Cl 20 19,Cv 6 20] (.ops [Cv 21 4,Cv 22 0,Nc 23 22,Cf 24 23 3,Cl 25 24,Cv 26 6,Cj 27 (.lookup .pint Zi (.t 25) (.t 26) false),Bs 28 1 [Zi] [(0,1,(.t 27))],Cap 29 1 8 21 28,Cv 4 29]))) (.ops [Ck 30 .add 17 1,Cv 17 30]))))))) (So [Cv 31 3,Cv 32 4,Cc 33 103 [.t 31,.t 32],Cv 2 33] .ret))))))⟩
def Ahe:CFn:=⟨15,[.tmp 6],(So [Bf 6] (So [Cv 7 0,Cv 8 1,Cb 9 .geq 7 8,Cv 10 9,Gtv 11 10 0,Gtv 12 10 2,Gtb 13 10 .leq 11 12,Pf 14 10 13,Cv 6 14] .ret))⟩
def Ahf:CFn:=⟨19,[.tmp 4],(So [Cm 4 0] (Sq (So [Cv 6 0,Le 7 6,Cm 8 0] (.block 0 (.loop (So [Cb 9 .lss 8 7] (Sq (Cq 9 .skip (.exit 0)) (Sq (.block 1 (So [Cv 10 8,Cv 5 10] (So [Cv 11 1,Cv 12 0,Cv 13 5,Ci 14 1 12 13,Cl 15 14,Cj 16 (.callv (.t 11) [.t 15])] (Cq 16 (So [Cv 17 5,Cv 4 17] .ret) .skip)))) (.ops [Ck 18 .add 8 1,Cv 8 18]))))))) (So [Cj 4 (.mv (.c (.int .i64 (-1))))] .ret)))⟩
def Ahg:CFn:=⟨13,[.tmp 2],(So [Cj 2 (.mv (.c (.nilf)))] (So [Al 3 [.nils]] (Sq (So [Cv 4 0,Cc 5 57 [.t 4],Nt 6 5] (Cq 6 (.ops [Cv 7 0,Nc 8 7,Cf 9 8 5,Cl 10 9,Cc 11 160 [.t 10,(.c (.fn (.func 161) [] []))],Cs 1 3 11]) .skip)) (So [Cj 12 (.mkfn (.func 162) [] [.t 3]),Cv 2 12] .ret))))⟩
def Ahh:CFn:=⟨47,[.tmp 2,.tmp 3],(So [Cj 2 (.mv (.c (.nilp))),Cm 3 0] (Sq (So [Cv 7 0,Le 8 7,Ck 9 .lss 8 1,Cv 10 9,Gfv 11 10 0,Cg 12 10 false (.lenS (.t 11)),Gfk 13 10 .gtr 12 4096,Pt 14 10 13,Cv 15 14,Gfv 16 15 0,Cg 17 15 false (.callv (.c (.fn (.func 82) [] [])) [.t 16,(.c (.fn (.func 163) [] []))]),Pt 18 15 17] (Cq 18 (So [Cj 2 (.mv (.c (.nilp))),Cm 3 2] .ret) .skip)) (So [Bu 19 [.nils,Zi,Zi,Zi,Zi,Zi] [],Bx 20 6 19,Cv 4 20] (Sq (So [Cv 21 0,Le 22 21,Cm 23 0] (.block 0 (.loop (So [Cb 24 .lss 23 22] (Sq (Cq 24 .skip (.exit 0)) (Sq (.block 1 (So [Ci 25 1 21 23,Cl 26 25,Cv 6 26] (.ops [Cv 27 4,Cv 28 4,Nc 29 28,Cf 30 29 0,Cl 31 30,Cv 32 6,Bu 33 [Zi] [(0,1,(.t 32))],Bu 34 [Zi,Zi] [(0,1,(.t 33)),(1,1,(Cz 1))],Bs 35 1 [Zi,Zi] [(0,2,(.t 34))],Cap 36 2 16 31 35,Nc 37 27,Cf 38 37 0,Cs 1 38 36]))) (.ops [Ck 39 .add 23 1,Cv 23 39]))))))) (So [Cv 40 4,Cv 41 0,Le 42 41,Nc 43 40,Cf 44 43 1,Cj 45 (.iaddrA 5 1 (.t 44) (Cz 1)),Cs 1 45 42] (So [Cv 46 4,Cv 2 46,Cm 3 0] .ret))))))⟩
def Ahi:CFn:=⟨36,[.tmp 2],(So [Bn 2] (So [Cm 3 0] (Sq (So [Cv 9 0,Le 10 9,Cm 11 0] (.block 0 (.loop (So [Cb 12 .lss 11 10] (Sq (Cq 12 .skip (.exit 0)) (Sq (.block 1 (So [Ci 13 1 9 11,Cl 14 13,Cv 5 14] (So [Cv 15 3,Cv 16 5,Le 17 16,Cb 18 .add 15 17,Cv 3 18] (So [Cv 19 3,Ck 20 .lss 19 0] (Cq 20 (.ops [Cj 21 (.mkif 9 (.c (.str [108,101,110,32,111,117,116,32,111,102,32,114,97,110,103,101]))),⟨none,none,.panic (.t 21)⟩]) .skip))))) (.ops [Ck 22 .add 11 1,Cv 11 22]))))))) (So [Cv 23 3,Cc 24 165 [(.c (.nils)),.t 23],Cv 6 24] (Sq (So [Cv 25 0,Le 26 25,Cm 27 0] (.block 2 (.loop (So [Cb 28 .lss 27 26] (Sq (Cq 28 .skip (.exit 2)) (Sq (.block 3 (So [Ci 29 1 25 27,Cl 30 29,Cv 8 30] (.ops [Cv 31 6,Cv 32 8,Cap 33 1 8 31 32,Cv 6 33]))) (.ops [Ck 34 .add 27 1,Cv 27 34]))))))) (So [Cv 35 6,Cv 2 35] .ret))))))⟩
def Alf:CFn:=⟨21,[.tmp 4],(So [Cm 4 0] (Sq (So [Cv 5 0,Cj 6 (.bin .eql (.t 5) (.c (.nilp)) true .ptr),Cv 7 6,Gfv 8 7 0,Gfv 9 7 1,Cg 10 7 false (.callv (.c (.fn (.func 102) [] [])) [.t 8,.t 9]),Cg 11 7 false (.un .not (.t 10)),Pt 12 7 11] (Cq 12 (So [Cm 4 0] .ret) .skip)) (So [Cv 13 0,Nc 14 13,Cf 15 14 0,Cl 16 15,Cv 17 1,Ci 18 2 16 17,Cf 19 18 1,Cl 20 19,Cv 4 20] .ret)))⟩
def Alg:CFn:=⟨15,[.tmp 4],(So [Bx 3 1 1,Cj 4 (.mv (.c (.nilf)))] (So [Al 5 [.nils]] (Sq (So [Cv 6 0,Cc 7 99 [.t 6],Nt 8 7] (Cq 8 (.ops [Cv 9 0,Nc 10 9,Cf 11 10 0,Cl 12 11,Cc 13 100 [.t 12],Cs 1 5 13]) .skip)) (So [Cj 14 (.mkfn (.func 101) [] [.t 5,.t 3]),Cv 4 14] .ret))))⟩
def Ab5:CC:= .ops [Cv 3 10]
def Ahj:CC:= .drawn [Dl 31 1,Dw 32 3,Dl 33 2,Dn 34 33,Df 35 34 6,Dl 36 35,Dw 37 3,Dl 39 2,Dn 40 39,Df 41 40 2,Df 42 41 1,Dl 43 42,Dw 44 4,⟨Cx 45 .i64 44,[44]⟩]
 []
 [⟨⟨Cc 38 25 [.t 36,.t 37],[36,37]⟩,[⟨Bu 46 [Zi,Zi,Zi,Zi] [(0,1,(.t 32)),(1,1,(.t 38)),(2,1,(.t 43)),(3,1,(.t 45))],[32,38,43,45]⟩,⟨Bs 47 1 [Zi,Zi,Zi,Zi] [(0,4,(.t 46))],[46]⟩],[Dl 31 1,Dw 32 3,Dl 39 2,Dn 40 39,Df 41 40 2,Df 42 41 1,Dl 43 42,Dw 44 4,⟨Cx 45 .i64 44,[44]⟩]⟩,⟨⟨Cap 48 4 32 31 47,[31,47]⟩,[],[]⟩,⟨DSt 1 1 48,[],[]⟩]
def Ab6:CC:= .block 1 (So [Cl 12 2,Nc 13 12,Cf 14 13 11,Cl 15 14,Cv 16 3,Cj 17 (.lookup .pint (.bool false) (.t 15) (.t 16) false),Nt 18 17] (Cq 18 (Sq (.drawn [Dl 19 2,Dn 20 19,Df 21 20 7,Dl 22 21,Dl 23 2,Dn 24 23,Df 25 24 13,Dl 26 25,Dw 27 3,⟨Cj 28 (.lookup .pint Zu (.t 26) (.t 27) false),[26,27]⟩,⟨Cb 29 .sub 22 28,[22,28]⟩,⟨Cj 30 (.maxmin false (.t 29) (.c (UN 1099511627776))),[29]⟩,Dw 4 30] [] []) Ahj) .skip))
def cf43:CFn:=⟨49,[],(So [Bx 2 1 0] (So [Cl 5 2,Nc 6 5,Cf 7 6 0,Cl 8 7,Cc 9 44 [.t 8,Cz 3]] (.block 0 (.rangeFunc (.t 9) [10,11] Ab5 Ab6))))⟩
def Alh:CFn:=⟨27,[.tmp 4],(So [Cm 4 0] (Sq (So [Cv 5 0,Cj 6 (.bin .eql (.t 5) (.c (.nilp)) true .ptr),Cv 7 6,Gfv 8 7 1,Gfk 9 7 .lss 8 0,Pt 10 7 9,Cv 11 10,Gfv 12 11 1,Gfv 13 11 0,Cg 14 11 false (.nilc (.t 13)),Gff 15 11 14 5,Gfl 16 11 15,Cg 17 11 false (.lenS (.t 16)),Gfb 18 11 .geq 12 17,Pt 19 11 18] (Cq 19 (So [Cm 4 0] .ret) .skip)) (So [Cv 20 0,Nc 21 20,Cf 22 21 5,Cl 23 22,Cv 24 1,Ci 25 1 23 24,Cl 26 25,Cv 4 26] .ret)))⟩
def Ahk:CC:= .drawn [Dl 24 2,Dn 25 24,Df 26 25 0,Dl 27 26,Dl 28 1]
 []
 [⟨⟨Cc 29 49 [.t 27,.t 28],[27,28]⟩,[⟨Ck 30 .eql 29 3,[29]⟩,Dw 31 30,DL 32 31 2,⟨Cg 33 31 true (.nilc (.t 32)),[31,32]⟩,DF 34 31 33 11,DL 35 31 34,DL 36 31 1,⟨Cg 37 31 true (.lookup .pint (.bool false) (.t 35) (.t 36) false),[31,35,36]⟩,⟨Cg 38 31 true (.un .not (.t 37)),[31,37]⟩,⟨Pf 39 31 38,[31,38]⟩],[]⟩,⟨⟨Cc 40 48 [.t 39,Cz 8],[39]⟩,[],[]⟩]
def Ab7:CC:=So [Cv 4 47] (.ops [Cv 5 48])
def ue:CC:= .block 1 (.drawn [Dl 49 3,Dl 50 2,Dw 51 5,Dl 52 2,Dw 53 4] [] [⟨⟨Cc 54 52 [.t 52,.t 53],[52,53]⟩,[],[Dl 49 3,Dl 50 2,Dw 51 5]⟩,⟨⟨Cc 55 51 [.t 50,.t 51,.t 54],[50,51,54]⟩,[⟨Bs 56 1 [Zi,Zi] [(0,2,(.t 55))],[55]⟩],[Dl 49 3]⟩,⟨⟨Cap 57 2 16 49 56,[49,56]⟩,[],[]⟩,⟨DSt 1 3 57,[],[]⟩])
def cf47:CFn:=⟨64,[],(So [Bx 2 1 0] (Sq (.drawn [Dl 6 1,⟨Ck 7 .geq 6 0,[6]⟩,Dw 8 7,DL 9 8 1,DL 10 8 2,⟨Cg 11 8 true (.nilc (.t 10)),[8,10]⟩,DF 12 8 11 2,DF 13 8 12 0,DL 14 8 13,⟨Gtb 15 8 .lss 9 14,[8,9,14]⟩,⟨Pf 16 8 15,[8,15]⟩] [] [⟨⟨Cc 17 48 [.t 16,Cz 3],[16]⟩,[],[]⟩]) (So [Cl 18 2,Nc 19 18,Cf 20 19 14,Cl 21 20,Nt 22 21,Cc 23 48 [.t 22,Cz 50]] (Sq Ahk (So [Al 3 [.nils]] (Sq (Sq (.drawn [Dl 41 2,Dn 42 41,Df 43 42 6,Dl 44 43,Dl 45 1] [] [⟨⟨Cc 46 50 [.t 44,.t 45],[44,45]⟩,[],[]⟩]) (.block 0 (.rangeFunc (.t 46) [47,48] Ab7 ue))) (So [Cl 58 2,Cl 59 3,Cc 60 53 [.t 58,.t 59]] (.ops [Cl 61 2,Cl 62 1,Cc 63 54 [.t 61,.t 62]]))))))))⟩
def Ali:CFn:=⟨54,[.tmp 4],(So [Cj 4 (.mv (.c (.nilf)))] (So [Bn 5,Bn 6] (Sq (So [Cv 10 0,Cv 11 1,Cc 12 25 [.t 10,.t 11],Ck 13 .gtr 12 0] (Cq 13 (So [Cv 14 1,Cv 15 0,Nc 16 15,Cf 17 16 0,Cf 18 17 2,Cl 19 18,Cb 20 .mul 14 19,Cv 7 20] (.block 0 (.loop (Sq (So [Cv 21 7,Cv 22 1,Ck 23 .add 22 1,Cv 24 0,Nc 25 24,Cf 26 25 0,Cf 27 26 2,Cl 28 27,Cb 29 .mul 23 28,Cb 30 .lss 21 29] (Cq 30 .skip (.exit 0))) (Sq (.block 1 (So [Cv 34 0,Nc 35 34,Cf 36 35 4,Cl 37 36,Cv 38 7,Cj 39 (.lookup .pint Zi (.t 37) (.t 38) true),Cv 33 39,Ce 40 33 0,Ce 41 33 1,Cv 8 40,Cv 9 41] (So [Cv 42 9] (Cq 42 (.ops [Cv 43 5,Cv 44 7,Bs 45 1 [Zi] [(0,1,(.t 44))],Cap 46 1 8 43 45,Cv 47 6,Cv 48 8,Bs 49 1 [Zi] [(0,1,(.t 48))],Cap 50 1 8 47 49,Cv 5 46,Cv 6 50]) .skip)))) (.ops [Cv 31 7,Ck 32 .add 31 1,Cv 7 32])))))) .skip)) (So [Cv 51 5,Cv 52 6,Cc 53 103 [.t 51,.t 52],Cv 4 53] .ret))))⟩
def Alj:CFn:=⟨50,[],(Sq (So [Cv 5 0,Nc 6 5,Cf 7 6 12,Cl 8 7,Cv 9 1,Cj 10 (.lookup .pint (.bool false) (.t 8) (.t 9) false)] (Cq 10 (So [Cv 11 0,Nc 12 11,Cf 13 12 12,Cl 14 13,Cv 15 1,⟨none,none,.delete .pint (.t 14) (.t 15)⟩] (So [Cv 16 0,Nc 17 16,Cf 18 17 0,Cl 19 18,Cv 20 1,Cc 21 106 [.t 19,.t 20]] .ret)) .skip)) (So [Cv 22 0,Nc 23 22,Cf 24 23 1,Cl 25 24,Cv 26 1,Cc 27 107 [.t 25,.t 26],Cv 4 27] (So [Cv 28 0,Cv 29 4,Cc 30 105 [.t 28,.t 29]] (So [Cv 31 0,Nc 32 31,Cf 33 32 13,Cl 34 33,Cv 35 1,⟨none,none,.delete .pint (.t 34) (.t 35)⟩] (Sq (So [Cv 36 4,Ck 37 .neq 36 0] (Cq 37 (So [Cv 38 0,Nc 39 38,Cf 40 39 0,Cl 41 40,Cv 42 1,Cc 43 106 [.t 41,.t 42]] .ret) .skip)) (.ops [Cv 44 0,Nc 45 44,Cf 46 45 0,Cl 47 46,Cv 48 1,Cc 49 108 [.t 47,.t 48]]))))))⟩
def Alk:CFn:=⟨58,[],(So [Cv 5 0,Nc 6 5,Cf 7 6 14,Cl 8 7,Nt 9 8,Cc 10 48 [.t 9,Cz 50]] (So [Cv 11 0,Nc 12 11,Cf 13 12 11,Cl 14 13,Cc 15 93 [.t 14],Cv 2 15] (Sq (So [Cv 16 0,Nc 17 16,Cf 18 17 10,Cf 19 18 0,Cl 20 19,Ck 21 .geq 20 0] (Cq 21 (Sq (.drawn [Dw 22 0,Dn 23 22,Df 24 23 0,Dl 25 24,Dw 26 0,Dn 27 26,Df 28 27 10,Df 29 28 0,Dl 30 29] [] [⟨⟨Cc 31 94 [.t 25,.t 30],[25,30]⟩,[],[]⟩]) (.ops [Cv 32 0,Nc 33 32,Cf 34 33 10,Cf 35 34 0,⟨none,none,.store 1 (.t 35) (.c (.int .i64 (-1)))⟩])) .skip)) (So [Cv 36 0,Cv 37 0,Nc 38 37,Cf 39 38 6,Cl 40 39,Cc 41 56 [.t 40],Cc 42 95 [.t 36,(.c (.int .u8 ((3:Nat):Int))),.t 41]] (So [Cv 43 2,Le 44 43,Cm 45 0] (.block 0 (.loop (So [Cb 46 .lss 45 44] (Sq (Cq 46 .skip (.exit 0)) (Sq (.block 1 (So [Ci 47 1 43 45,Cl 48 47,Cv 4 48] (So [Cv 49 0,Cv 50 4,Cc 51 54 [.t 49,.t 50]] (.ops [Cv 52 0,Nc 53 52,Cf 54 53 11,Cl 55 54,Cv 56 4,⟨none,none,.delete .pint (.t 55) (.t 56)⟩])))) (.ops [Ck 57 .add 45 1,Cv 45 57])))))))))))⟩
def All:CFn:=⟨6,[.tmp 2],(So [Bn 2] (So [Cv 3 0,Cc 4 137 [.t 3],Cc 5 136 [.t 4],Cv 2 5] .ret))⟩
def Alm:CFn:=⟨15,[.tmp 4],(So [Cm 4 0] (So [Cv 6 0,Cv 7 1,Cc 8 138 [.t 6,.t 7,(.c (.fn (.func 139) [] []))],Cv 5 8] (Sq (So [Cv 9 5,Ck 10 .eql 9 0] (Cq 10 (.ops [Cv 11 0,Cv 12 1,Cc 13 140 [.t 11,.t 12,Cz 3]]) .skip)) (So [Cv 14 5,Cv 4 14] .ret))))⟩
def Aln:CFn:=⟨66,[],(So [Bx 3 1 0] (Sq (.drawn [Dw 12 1,Dl 13 3,Dn 14 13,Df 15 14 2,Df 16 15 2,Dl 17 16,Dl 18 3,Dn 19 18,Df 20 19 7,Dl 21 20,Dl 22 3,Dn 23 22,Df 24 23 8,Dl 25 24,Dw 26 2] [] [⟨⟨Cc 27 141 [.t 12,.t 17,.t 21,.t 25,.t 26],[12,17,21,25,26]⟩,[Dw 11 27,De 28 11 0,De 29 11 1,Dw 6 28,Dw 7 29],[]⟩]) (So [Cv 30 7,Ck 31 .eql 30 0,Cv 32 7,Cc 33 48 [.t 31,.t 32]] (So [Cl 34 3,Nc 35 34,Cf 36 35 7,Cl 37 36,Cv 38 6,Le 39 38,Cx 40 .u64 39,Cb 41 .add 37 40,Nc 42 34,Cf 43 42 7,Cs 1 43 41] (So [Cj 44 (.mkfn (.func 142) [] [.t 3]),Cv 8 44] (Sq (So [Cv 45 6,Le 46 45,Cm 47 0] (.block 0 (.loop (So [Cb 48 .lss 47 46] (Sq (Cq 48 .skip (.exit 0)) (Sq (.block 1 (So [Ci 49 7 45 47,Cn 50 7 49,Al 10 [Zy,Zi,Zu,Zu,Zi,Zi,.nils],Cs 7 10 50] (.ops [Cv 51 8,Cn 52 7 10,Cj 53 (.callv (.t 51) [.t 52])]))) (.ops [Ck 54 .add 47 1,Cv 47 54]))))))) (.drawn [Dl 55 3,Dw 56 6,Dw 57 6,⟨Le 58 57,[57]⟩,⟨Ck 59 .sub 58 1,[58]⟩,DJ 60 7 56 59,Df 61 60 0,Df 62 61 2,Dl 63 62,Dn 64 55,Df 65 64 8] [] [⟨DSt 1 65 63,[],[]⟩])))))))⟩
def Alo:CFn:=⟨7,[],(So [Cj 2 (.recover),Cv 1 2] (So [Cv 3 1,Cj 4 (.bin .neq (.t 3) (.c (.nili)) true .iface)] (Cq 4 (.ops [Cv 5 1,Cj 6 (.tassert (.t 5) 44 Zi false),Cs 1 0 6]) .skip)))⟩
def Ahl:CFn:=⟨11,[],(So [Cv 4 1,Ck 5 .eql 4 50] (Cq 5 (So [Cv 6 0,Nc 7 6,Cf 8 7 14,⟨none,none,.store 1 (.t 8) (.c (.bool true))⟩] (.ops [Cv 9 1,Cj 10 (.mkif 44 (.t 9)),⟨none,none,.panic (.t 10)⟩])) .skip))⟩
def Aeg:CC:= .drawn [Dw 26 1,Dn 27 26,Df 28 27 0,Dl 29 28,⟨Ck 30 .geq 29 0,[29]⟩,Dw 31 30,⟨Gtv 32 31 0,[31,0]⟩,⟨Cg 33 31 true (.nilc (.t 32)),[31,32]⟩,DF 34 31 33 1,DL 35 31 34,⟨Gtv 36 31 1,[31,1]⟩,⟨Cg 37 31 true (.nilc (.t 36)),[31,36]⟩,DF 38 31 37 0,DL 39 31 38,⟨Gtv 41 31 0,[31,0]⟩,⟨Cg 42 31 true (.nilc (.t 41)),[31,41]⟩,DF 43 31 42 2,DF 44 31 43 1,DL 45 31 44]
 []
 [⟨⟨Cg 40 31 true (.callv (.c (.fn (.func 20) [] [])) [.t 35,.t 39]),[31,35,39]⟩,[⟨Gtb 46 31 .eql 40 45,[31,40,45]⟩,⟨Pf 47 31 46,[31,46]⟩],[⟨Gtv 41 31 0,[31,0]⟩,⟨Cg 42 31 true (.nilc (.t 41)),[31,41]⟩,DF 43 31 42 2,DF 44 31 43 1,DL 45 31 44]⟩]
def U6:CC:=So [Cv 73 12,Ck 74 .eql 73 0,Cc 75 48 [.t 74,Cz 7]] (So [Cv 76 1,Cv 77 11,Nc 78 76,Cf 79 78 0,Cs 1 79 77] (So [Cf 80 6 0,Cl 81 80,Cj 82 (.bin .neq (.t 81) (.c (.int .u8 ((1:Nat):Int))) true .pint)] (Cq 82 (.ops [Cv 83 0,Nc 84 83,Cf 85 84 11,Cl 86 85,Cv 87 11,⟨none,none,.mupd .pint (.t 86) (.t 87) (.c (.bool true))⟩]) .skip)))
def U7:CC:=So [Cv 98 0,Nc 99 98,Cf 100 99 1,Cl 101 100,Cv 102 13,Cv 103 14,Cv 104 3,Cv 105 9,Cc 106 147 [.t 101,.t 102,.t 103,.t 104,.t 105],Cv 15 106] (So [Cv 107 0,Cv 108 15,Cc 109 105 [.t 107,.t 108]] (Sq (So [Cv 110 15,Ck 111 .eql 110 0] (Cq 111 (So [Cv 112 13,Cv 113 0,Nc 114 113,Cf 115 114 2,Cf 116 115 1,Cl 117 116,Cb 118 .mul 112 117,Cv 119 14,Cb 120 .add 118 119,Cv 8 120] .ret) .skip)) (So [Cv 121 0,Nc 122 121,Cf 123 122 12,Cl 124 123,Cv 125 13,⟨none,none,.mupd .pint (.t 124) (.t 125) (.c (.bool true))⟩] (So [Cv 126 0,Nc 127 126,Cf 128 127 0,Cl 129 128,Cv 130 13,Cc 131 94 [.t 129,.t 130]] (.ops [Cv 132 1,Nc 133 132,Cf 134 133 0,⟨none,none,.store 1 (.t 134) (.c (.int .i64 (-1)))⟩])))))
def U8:CC:=So [Cv 88 1,Nc 89 88,Cf 90 89 0,Cl 91 90,Cv 13 91] (So [Cv 92 0,Nc 93 92,Cf 94 93 1,Cl 95 94,Cv 96 13,Cc 97 20 [.t 95,.t 96],Cv 14 97] U7)
def Md:CC:= .block 1 (Sq (Sq Aeg (Cq 47 (Sq (.drawn [Dw 48 0,Dn 49 48,Df 50 49 0,Dl 51 50,Dw 52 1,Dn 53 52,Df 54 53 0,Dl 55 54] [] [⟨⟨Cc 56 94 [.t 51,.t 55],[51,55]⟩,[],[]⟩]) (.ops [Cv 57 1,Nc 58 57,Cf 59 58 0,⟨none,none,.store 1 (.t 59) (.c (.int .i64 (-1)))⟩])) .skip)) (Sq (So [Cv 60 1,Nc 61 60,Cf 62 61 0,Cl 63 62,Ck 64 .lss 63 0] (Cq 64 (So [Cv 66 0,Nc 67 66,Cf 68 67 0,Cl 69 68,Cc 70 146 [.t 69],Cv 65 70,Ce 71 65 0,Ce 72 65 1,Cv 11 71,Cv 12 72] U6) .skip)) U8))
def cf104:CFn:=⟨135,[.tmp 8],(So [Bx 6 6 2,Cm 8 0] (So [Cn 17 6 6,Cv 18 3,Cc 19 145 [.t 17,.t 18],Cv 16 19,Ce 20 16 0,Ce 21 16 1,Cv 9 20,Cv 10 21] (So [Cv 22 10,Ck 23 .eql 22 0,Cv 24 10,Cc 25 48 [.t 23,.t 24]] (.block 0 (.loop Md)))))⟩
def Ahm:CFn:=⟨7,[],(.ops [Cl 2 1,Cl 3 0,Bu 4 [.nils] [(0,1,(.t 3))],Bu 5 [.nils,Zi] [(0,1,(.t 4)),(1,1,(Cz 2))],Nc 6 2,Cs 2 6 5])⟩
def Ahn:CFn:=⟨4,[],(.ops [Cl 1 0,Bu 2 [.nils,Zi] [(1,1,(Cz 4))],Nc 3 1,Cs 2 3 2])⟩
def Aho:CFn:=⟨38,[],(So [Cl 4 1,Cl 5 0,Bu 6 [.nils] [(0,1,(.t 5))],Bu 7 [.nils,Zi] [(0,1,(.t 6)),(1,1,(Cz 3))],Nc 8 4,Cs 2 8 7] (Sq (Sq (.drawn [Dl 9 2,Dn 10 9,Df 11 10 8,Dl 12 11,Dl 13 0,⟨Le 14 13,[13]⟩,⟨Cb 15 .eql 12 14,[12,14]⟩] [] []) (Cq 15 (.ops [Cl 16 1,Nc 17 16,Cf 18 17 1,⟨none,none,.store 1 (.t 18) (Cz 2)⟩]) .skip)) (Sq (.drawn [Dl 19 0,Dl 20 2,Dn 21 20,Df 22 21 8,Dl 23 22,⟨Cj 24 (.sliceS 1 (.t 19) (some (.t 23)) none none),[19,23]⟩,⟨Le 25 24,[24]⟩,⟨Cm 26 0,[]⟩] [] []) (.block 0 (.loop (So [Cb 27 .lss 26 25] (Sq (Cq 27 .skip (.exit 0)) (Sq (.block 1 (So [Cv 28 26,Cv 3 28] (.drawn [Dl 29 0,Dl 30 2,Dn 31 30,Df 32 31 8,Dl 33 32,Dw 34 3,⟨Cb 35 .add 33 34,[33,34]⟩,DJ 36 1 29 35] [] [⟨⟨⟨none,none,.store 1 (.t 36) (.c (.int .u8 ((255:Nat):Int)))⟩,[36]⟩,[],[]⟩]))) (.ops [Ck 37 .add 26 1,Cv 26 37])))))))))⟩
def Ahp:CFn:=⟨27,[.tmp 4],(So [Bn 4] (Sq (So [Cv 5 1,Ck 6 .lss 5 0] (Cq 6 (.ops [Cj 7 (.mkif 9 (.c (.str [99,97,110,110,111,116,32,98,101,32,110,101,103,97,116,105,118,101]))),⟨none,none,.panic (.t 7)⟩]) .skip)) (Sq (So [Cv 8 1,Cv 9 0,Cj 10 (.capS (.t 9)),Cv 11 0,Le 12 11,Cb 13 .sub 10 12,Cb 14 .sub 8 13,Cv 1 14] (So [Cv 15 1,Ck 16 .gtr 15 0] (Cq 16 (.ops [Cv 17 0,Cv 18 0,Cj 19 (.capS (.t 18)),Cj 20 (.sliceS 1 (.t 17) none (some (.t 19)) none),Cv 21 1,Cj 22 (.appendZ 1 [Zy] (.t 20) (.t 21)),Cv 23 0,Le 24 23,Cj 25 (.sliceS 1 (.t 22) none (some (.t 24)) none),Cv 0 25]) .skip))) (So [Cv 26 0,Cv 4 26] .ret))))⟩
def Alp:CFn:=⟨8,[.tmp 2],(So [Bn 2] (Sq (So [Cv 3 0,Cj 4 (.bin .eql (.t 3) (.c (.nils)) true .nilS)] (Cq 4 (So [Bn 2] .ret) .skip)) (So [Bs 5 0 [] [],Cv 6 0,Cap 7 1 1 5 6,Cv 2 7] .ret)))⟩
def Alq:CFn:=⟨9,[],(So [Cj 3 (.recover),Cv 2 3] (So [Cv 4 2,Cj 5 (.bin .neq (.t 4) (.c (.nili)) true .iface)] (Cq 5 (.drawn [⟨Bu 6 [Zy,Zi,Zu,Zu,Zi,Zi] [],[]⟩,Dw 7 2,⟨Cj 8 (.tassert (.t 7) 44 Zi false),[7]⟩] [] [⟨DSt 6 0 6,[],[Dw 7 2,⟨Cj 8 (.tassert (.t 7) 44 Zi false),[7]⟩]⟩,⟨DSt 1 1 8,[],[]⟩]) .skip)))⟩
def Alr:CFn:=⟨8,[],(So [Cv 4 0,Nt 5 4] (Cq 5 (.ops [Cv 6 1,Cj 7 (.mkif 44 (.t 6)),⟨none,none,.panic (.t 7)⟩]) .skip))⟩
def Als:CFn:=⟨8,[.tmp 2],(So [Cj 2 (.mv (.c (.nilp)))] (So [Cv 3 0,Cc 4 63 [.t 3],Bu 5 [.nils,Zi] [(0,1,(.t 4))],Bu 6 [.nils,Zi] [(0,2,(.t 5))],Bx 7 2 6,Cv 2 7] .ret))⟩
def Alu:CFn:=⟨17,[.tmp 3],(So [Cm 3 0] (So [Cl 7 1,Cv 8 0,Cc 9 68 [.t 7,.t 8],Cv 6 9,Ce 10 6 0,Ce 11 6 1,Cv 4 10,Cv 5 11] (So [Cv 12 5,Ck 13 .eql 12 0,Cc 14 65 [.t 13,Cz 6]] (So [Cv 15 4,Cx 16 .i64 15,Cv 3 16] .ret))))⟩
def Alv:CFn:=⟨21,[.tmp 4,.tmp 5],(So [Cj 4 (.mv (.c Zu)),Cm 5 0] (So [Cv 9 0,Cv 10 1,Bs 11 1 [Zi] [(0,1,(.t 10))],Cc 12 112 [.t 9,.t 11],Cv 8 12,Ce 13 8 0,Ce 14 8 1,Cv 6 13,Cv 7 14] (Sq (So [Cv 15 7,Ck 16 .neq 15 0] (Cq 16 (So [Cv 17 7,Cj 4 (.mv (.c Zu)),Cv 5 17] .ret) .skip)) (So [Cv 18 6,Ik 19 1 18 0,Cl 20 19,Cv 4 20,Cm 5 0] .ret))))⟩
def Alw:CFn:=⟨13,[.tmp 1],(So [Cj 1 (.mv (.c Zu))] (So [Cl 5 0,Cc 6 68 [.t 5,Cz 8],Cv 4 6,Ce 7 4 0,Ce 8 4 1,Cv 2 7,Cv 3 8] (So [Cv 9 3,Ck 10 .eql 9 0,Cc 11 65 [.t 10,Cz 6]] (So [Cv 12 2,Cv 1 12] .ret))))⟩
def Alx:CFn:=⟨30,[.tmp 2,.tmp 3],(So [Cj 2 (.mv (.c Zu)),Cm 3 0] (Sq (So [Cv 6 0,Le 7 6,Ck 8 .lss 7 1,Cv 9 8,Gfv 10 9 0,Cg 11 9 false (.lenS (.t 10)),Gfk 12 9 .gtr 11 8,Pt 13 9 12] (Cq 13 (So [Cj 2 (.mv (.c Zu)),Cm 3 2] .ret) .skip)) (Sq (So [Cv 14 0,Le 15 14,Cm 16 0] (.block 0 (.loop (So [Cb 17 .lss 16 15] (Sq (Cq 17 .skip (.exit 0)) (Sq (.block 1 (So [Cv 18 16,Ci 19 1 14 16,Cl 20 19,Cv 4 18,Cv 5 20] (.ops [Cv 21 2,Cv 22 5,Cx 23 .u64 22,Cv 24 4,Cj 25 (.bin .mul (Cz 8) (.t 24) true .pint),Cb 26 .shl 23 25,Cb 27 .or 21 26,Cv 2 27]))) (.ops [Ck 28 .add 16 1,Cv 16 28]))))))) (So [Cv 29 2,Cv 2 29,Cm 3 0] .ret))))⟩
def Aly:CFn:=⟨12,[.tmp 4],(So [Cj 4 (.mv (.c Zu))] (So [Cv 5 0,Cv 6 1,Cj 7 (.sliceS 1 (.t 6) none (some (Cz 60)) none),Bs 8 2 [.nils,.nils] [(0,1,(.t 5)),(1,1,(.t 7))],Cc 9 114 [.t 8],Cc 10 113 [.t 9],Cx 11 .u64 10,Cv 4 11] .ret))⟩
def Alz:CFn:=⟨32,[.tmp 4],(So [Cm 4 0] (So [Cv 8 0,Cc 9 115 [.t 8],Nc 10 9,Cn 11 2 10,Bu 12 [.nils,Zi] [(0,2,(.t 11))],Al 5 [.nils,Zi],Cs 2 5 12] (So [Cf 14 5 0,Cv 15 1,Cc 16 116 [.t 14,.t 15],Cv 13 16,Ce 17 13 0,Ce 18 13 1,Cv 6 17,Cv 7 18] (Sq (.block 0 (So [Cv 20 7,Ck 21 .neq 20 0,Cv 19 21] (Cq 19 (So [Cv 22 7,Cv 4 22] .ret) (So [Cv 24 6,Cc 25 117 [.t 24,(.c (.fn (.func 118) [] []))],Cv 23 25] (Cq 23 (So [Cm 4 6] .ret) (So [Cv 27 0,Cj 28 (.bin .neq (.t 27) (.c (.nilp)) true .ptr),Cv 26 28] (Cq 26 (.ops [Cv 29 0,Cn 30 2 5,Nc 31 29,Cs 2 31 30]) .skip))))))) (So [Cm 4 0] .ret)))))⟩
def Al0:CFn:=⟨8,[.tmp 2],(So [Cm 2 0] (So [Cv 3 0,Cc 4 115 [.t 3],Nc 5 4,Cf 6 5 1,Cl 7 6,Cv 2 7] .ret))⟩
def Ahq:CC:= .ops [Cf 4 1 2,Cl 5 4,Cj 6 (.bin .lss (.t 5) (.c (UN 1)) true .pint),Cv 7 6,Gff 8 7 1 5,Gfl 9 7 8,Gfk 10 7 .lss 9 1,Pt 11 7 10,Cv 12 11,Gff 13 12 1 5,Gfl 14 12 13,Gfk 15 12 .gtr 14 65535,Pt 16 12 15,Cv 17 16,Gff 18 17 1 4,Gfl 19 17 18,Gfk 20 17 .lss 19 0,Pt 21 17 20,Cv 22 21,Gff 23 22 1 4,Gfl 24 22 23,Gff 25 22 1 5,Gfl 26 22 25,Gfb 27 22 .geq 24 26,Pt 28 22 27,Cv 3 28]
def Al1:CFn:=⟨81,[.tmp 2],(So [Bx 1 6 0,Bf 2] (Sq (.block 0 (Sq Ahq (Cq 3 (So [Bf 2] .ret) (So [Cf 30 1 0,Cl 31 30,Cj 32 (.bin .eql (.t 31) (.c (.int .u8 ((1:Nat):Int))) true .pint),Cv 29 32] (Cq 29 (So [Cf 33 1 1,Cl 34 33,Ck 35 .geq 34 0,Cv 36 35,Gtf 37 36 1 1,Gtl 38 36 37,Gtk 39 36 .leq 38 4294967294,Pf 40 36 39,Cv 41 40,Gtf 42 41 1 3,Gtl 43 41 42,Cg 44 41 true (.bin .eql (.t 43) (.c Zu) true .pint),Pf 45 41 44,Cv 46 45,Gtf 47 46 1 5,Gtl 48 46 47,Gtk 49 46 .eql 48 1,Pf 50 46 49,Cv 2 50] .ret) (So [Cf 52 1 0,Cl 53 52,Cj 54 (.bin .neq (.t 53) (.c (.int .u8 ((2:Nat):Int))) true .pint),Cv 55 54,Gtf 56 55 1 0,Gtl 57 55 56,Cg 58 55 true (.bin .neq (.t 57) (.c (.int .u8 ((3:Nat):Int))) true .pint),Pf 59 55 58,Cv 51 59] (Cq 51 (So [Bf 2] .ret) .skip))))))) (So [Cf 60 1 1,Cl 61 60,Ck 62 .eql 61 0,Cv 63 62,Gtf 64 63 1 3,Gtl 65 63 64,Gtf 66 63 1 2,Gtl 67 63 66,Gtb 68 63 .lss 65 67,Pf 69 63 68,Cv 70 69,Gtf 71 70 1 4,Gtl 72 70 71,Cg 73 70 true (.conv .u64 (.t 72)),Gtf 74 70 1 2,Gtl 75 70 74,Gtf 76 70 1 3,Gtl 77 70 76,Gtb 78 70 .sub 75 77,Gtb 79 70 .lss 73 78,Pf 80 70 79,Cv 2 80] .ret)))⟩
def Ahr:CFn:=⟨8,[],(So [Cj 3 (.recover),Cv 2 3] (So [Cv 4 2,Cj 5 (.bin .neq (.t 4) (.c (.nili)) true .iface)] (Cq 5 (.drawn [Dw 6 2,⟨Cj 7 (.tassert (.t 6) 44 Zi false),[6]⟩] [] [⟨⟨⟨none,none,.store 1 (.t 0) (.c (.nils))⟩,[0]⟩,[],[Dw 6 2,⟨Cj 7 (.tassert (.t 6) 44 Zi false),[6]⟩]⟩,⟨DSt 1 1 7,[],[]⟩]) .skip)))⟩
def Ahs:CFn:=⟨8,[],(So [Cv 4 0,Nt 5 4] (Cq 5 (.ops [Cv 6 1,Cj 7 (.mkif 44 (.t 6)),⟨none,none,.panic (.t 7)⟩]) .skip))⟩
def Aht:CFn:=⟨9,[.tmp 4],(So [Cj 4 (.mv (.c Zu))] (So [Cv 5 1,Ck 6 .eql 5 0,Cc 7 120 [.t 6,Cz 6]] (So [Cv 8 0,Cv 4 8] .ret)))⟩
def Ahu:CFn:=⟨21,[.tmp 2],(So [Bx 1 2 0,Bf 2] (So [Cf 3 1 0,Cl 4 3,Ck 5 .lss 4 0,Cv 6 5,Gff 7 6 1 0,Gfl 8 6 7,Gfk 9 6 .gtr 8 4294967294,Pt 10 6 9,Cv 11 10,Gff 12 11 1 1,Gfl 13 11 12,Cg 14 11 false (.bin .lss (.t 13) (.c (.int .i64 (-1))) true .pint),Pt 15 11 14,Cv 16 15,Gff 17 16 1 1,Gfl 18 16 17,Gfk 19 16 .gtr 18 4294967294,Pt 20 16 19,Cv 2 20] .ret))⟩
def Ahv:CFn:=⟨9,[.tmp 2],(So [Cm 2 0] (So [Cv 3 0,Cc 4 115 [.t 3],Nc 5 4,Cf 6 5 0,Cl 7 6,Le 8 7,Cv 2 8] .ret))⟩
def Aeh:CC:= .ops [Cf 4 1 0,Cl 5 4,Cj 6 (.bin .neq (.t 5) (.c (.int .u8 ((2:Nat):Int))) true .pint),Cv 7 6,Gtf 8 7 1 0,Gtl 9 7 8,Cg 10 7 true (.bin .neq (.t 9) (.c (.int .u8 ((3:Nat):Int))) true .pint),Pf 11 7 10,Cv 12 11,Gff 13 12 1 2,Gfl 14 12 13,Cg 15 12 false (.bin .lss (.t 14) (.c (UN 1)) true .pint),Pt 16 12 15,Cv 17 16,Gff 18 17 1 5,Gfl 19 17 18,Gfk 20 17 .lss 19 1,Pt 21 17 20,Cv 22 21,Gff 23 22 1 5,Gfl 24 22 23,Gfk 25 22 .gtr 24 65535,Pt 26 22 25,Cv 27 26,Gff 28 27 1 4,Gfl 29 27 28,Gfk 30 27 .lss 29 0,Pt 31 27 30,Cv 32 31,Gff 33 32 1 4,Gfl 34 32 33,Gff 35 32 1 5,Gfl 36 32 35,Gfb 37 32 .geq 34 36,Pt 38 32 37,Cv 39 38,Gff 40 39 1 1,Gfl 41 39 40,Gfk 42 39 .neq 41 0,Pt 43 39 42,Cv 44 43,Gff 45 44 1 3,Gfl 46 44 45,Gff 47 44 1 2,Gfl 48 44 47,Gfb 49 44 .geq 46 48,Pt 50 44 49,Cv 51 50,Gff 52 51 1 4,Gfl 53 51 52,Cg 54 51 false (.conv .u64 (.t 53)),Gff 55 51 1 2,Gfl 56 51 55,Gff 57 51 1 3,Gfl 58 51 57,Gfb 59 51 .sub 56 58,Gfb 60 51 .geq 54 59,Pt 61 51 60]
def Ahw:CFn:=⟨76,[.cellN 2 4,.tmp 3],(So [Bx 1 6 0,Al 2 [Zy,Zu,Zu,Zi],Bf 3] (Sq (Sq Aeh (Cq 61 (So [Bu 62 [Zy,Zu,Zu,Zi] [],Cs 4 2 62,Bf 3] .ret) .skip)) (So [Cf 63 1 0,Cl 64 63,Cf 65 1 2,Cl 66 65,Cf 67 1 4,Cl 68 67,Cx 69 .u64 68,Cb 70 .sub 66 69,Cf 71 1 3,Cl 72 71,Cf 73 1 5,Cl 74 73,Bu 75 [Zy,Zu,Zu,Zi] [(0,1,(.t 64)),(1,1,(.t 70)),(2,1,(.t 72)),(3,1,(.t 74))],Cs 4 2 75,Bt 3] .ret)))⟩
def Aei:CC:= .drawn [Df 6 3 1,Dl 7 6,Df 8 4 1,Dl 9 8,⟨Cb 10 .gtr 7 9,[7,9]⟩,Dw 11 10,⟨Gff 12 11 3 1,[11,3]⟩,⟨Gfl 13 11 12,[11,12]⟩,⟨Gff 14 11 4 1,[11,4]⟩,⟨Gfl 15 11 14,[11,14]⟩,⟨Gfb 16 11 .eql 13 15,[11,13,15]⟩,⟨Gfv 17 11 16,[11,16]⟩,DL 18 17 2,⟨Cg 19 17 true (.loadN 4 (.t 3)),[17,3]⟩,⟨Cg 20 17 true (.lookup (.agg [(0,0,.pint),(1,0,.pint),(2,0,.pint),(3,0,.pint)]) (.agg [.nilm,Zi]) (.t 18) (.t 19) false),[17,18,19]⟩,⟨Cg 21 17 true (.field1 (.t 20) 1),[17,20]⟩,DL 22 17 2,⟨Cg 23 17 true (.loadN 4 (.t 4)),[17,4]⟩,⟨Cg 24 17 true (.lookup (.agg [(0,0,.pint),(1,0,.pint),(2,0,.pint),(3,0,.pint)]) (.agg [.nilm,Zi]) (.t 22) (.t 23) false),[17,22,23]⟩,⟨Cg 25 17 true (.field1 (.t 24) 1),[17,24]⟩,⟨Gtb 26 17 .lss 21 25,[17,21,25]⟩,⟨Cg 27 11 false (.pick (.t 17) (.t 26) (.c (.bool false))),[11,17,26]⟩,⟨Pt 28 11 27,[11,27]⟩,Dw 5 28]
 []
 []
def Ahx:CFn:=⟨29,[.tmp 5],(So [Bx 3 4 0,Bx 4 4 1,Bf 5] (Sq Aei .ret))⟩
def Ahy:CFn:=⟨16,[.tmp 4],(So [Bx 2 4 0,Bx 3 2 1,Bf 4] (So [Cf 5 2 0,Cl 6 5,Cj 7 (.bin .eql (.t 6) (.c (.int .u8 ((3:Nat):Int))) true .pint),Cv 8 7,Gtf 9 8 3 0,Gtl 10 8 9,Cg 11 8 true (.lenM (.t 10)),Gtf 12 8 2 3,Gtl 13 8 12,Gtb 14 8 .eql 11 13,Pf 15 8 14,Cv 4 15] .ret))⟩
def Ahz:CFn:=⟨24,[.tmp 5],(So [Bx 3 4 0,Bx 4 2 1,Bf 5] (So [Cf 6 3 0,Cl 7 6,Cj 8 (.bin .eql (.t 7) (.c (.int .u8 ((2:Nat):Int))) true .pint),Cv 9 8,Gtf 10 9 4 0,Gtl 11 9 10,Cg 12 9 true (.lenM (.t 11)),Gtf 13 9 3 3,Gtl 14 9 13,Gtb 15 9 .eql 12 14,Pf 16 9 15,Cv 17 16,Gtf 18 17 3 2,Gtl 19 17 18,Gtf 20 17 2 1,Gtl 21 17 20,Gtb 22 17 .eql 19 21,Pf 23 17 22,Cv 5 23] .ret))⟩
def ce:CC:=So [Cj 12 (.nextM (.t 11)),Ce 13 12 0] (Sq (Cq 13 .skip (.exit 0)) (.block 1 (So [Cj 14 (.entry (.t 11)),Ce 15 14 0,Ce 16 14 1,Al 8 [Zy,Zu,Zu,Zi],Al 9 [.nilm,Zi],Cs 4 8 15,Cs 2 9 16] (So [Cv 17 1,Cn 18 4 8,Cn 19 2 9,Cj 20 (.callv (.t 17) [.t 18,.t 19]),Cv 21 20,Gtv 22 21 7,Cg 23 21 true (.un .not (.t 22)),Gtv 24 21 23,Gfv 25 24 2,Cg 26 24 false (.loadN 4 (.t 8)),Cg 27 24 false (.loadN 4 (.t 6)),Cg 28 24 false (.callv (.t 25) [.t 26,.t 27]),Cg 29 21 true (.pick (.t 24) (.c (.bool true)) (.t 28)),Pf 30 21 29] (Cq 30 (.ops [Cn 31 4 8,Cs 4 6 31,Bt 7]) .skip)))))
def cf:CC:=So [Cn 32 4 6,Cv 33 7,Cs 4 6 32,Cv 7 33] .ret
def cf128:CFn:=⟨34,[.cellN 6 4,.tmp 7],(So [Al 6 [Zy,Zu,Zu,Zi],Bf 7] (Sq (So [Cv 10 0,Cj 11 (.rangeM (.t 10))] (.block 0 (.loop ce))) cf))⟩
def Ah0:CFn:=⟨8,[],(So [Cv 4 0,Nt 5 4] (Cq 5 (.ops [Cv 6 1,Cj 7 (.mkif 44 (.t 6)),⟨none,none,.panic (.t 7)⟩]) .skip))⟩
def Aej:CC:= .drawn [Df 5 3 0,Dl 6 5,⟨Ck 7 .geq 6 0,[6]⟩,Dw 8 7,DF 9 8 3 0,DL 10 8 9,DF 11 8 2 0,DL 12 8 11,⟨Gtb 13 8 .lss 10 12,[8,10,12]⟩,⟨Pf 14 8 13,[8,13]⟩,Dw 15 14,DF 16 15 3 1,DL 17 15 16,⟨Cg 18 15 true (.bin .geq (.t 17) (.c (.int .i64 (-1))) true .pint),[15,17]⟩,⟨Pf 19 15 18,[15,18]⟩,Dw 20 19,DF 21 20 3 1,DL 22 20 21,⟨Cg 23 20 true (.loadN 3 (.t 2)),[20,2]⟩]
 []
 [⟨⟨Cg 24 20 true (.callv (.c (.fn (.func 152) [] [])) [.t 23]),[20,23]⟩,[⟨Gtb 25 20 .lss 22 24,[20,22,24]⟩,⟨Pf 26 20 25,[20,25]⟩,Dw 4 26],[DF 21 20 3 1,DL 22 20 21]⟩]
def Ah1:CFn:=⟨27,[.tmp 4],(So [Bx 2 3 0,Bx 3 2 1,Bf 4] (Sq Aej .ret))⟩
def Ah2:CFn:=⟨6,[.tmp 4],(So [Bx 2 1 0,Bx 3 1 1,Cj 4 (.mv (.c (.nilf)))] (So [Cj 5 (.mkfn (.func 144) [] [.t 2,.t 3]),Cv 4 5] .ret))⟩
def Ah3:CFn:=⟨6,[.tmp 2],(So [Bn 2] (So [Cv 3 0,Cc 4 178 [.t 3],Cc 5 136 [.t 4],Cv 2 5] .ret))⟩
def Ah4:CFn:=⟨21,[.tmp 4],(So [Bn 4] (Sq (So [Cv 7 0,Le 8 7,Cm 9 0] (.block 0 (.loop (So [Cb 10 .lss 9 8] (Sq (Cq 10 .skip (.exit 0)) (Sq (.block 1 (So [Ci 11 3 7 9,Cn 12 3 11,Al 6 [.nils,Zi,Zi],Cs 3 6 12] (.ops [Cv 13 4,Cv 14 1,Cn 15 3 6,Cj 16 (.callv (.t 14) [.t 15]),Bs 17 1 [Zi] [(0,1,(.t 16))],Cap 18 1 8 13 17,Cv 4 18]))) (.ops [Ck 19 .add 9 1,Cv 9 19]))))))) (So [Cv 20 4,Cv 4 20] .ret)))⟩
def Ah5:CFn:=⟨5,[.tmp 2],(So [Bx 1 3 0,Cm 2 0] (So [Cf 3 1 2,Cl 4 3,Cv 2 4] .ret))⟩
def Ah6:CFn:=⟨18,[],(.scope (Sq (.label 0) (So [Cl 5 1,Le 6 5,Cm 7 0] (.block 0 (.loop (So [Cb 8 .lss 7 6] (Sq (Cq 8 .skip (.exit 0)) (Sq (.block 1 (So [Cv 9 7,Ci 10 1 5 7,Cl 11 10,Cv 3 9,Cv 4 11] (So [Cv 12 0,Cv 13 3,Cv 14 4,Cj 15 (.callv (.t 12) [.t 13,.t 14]),Nt 16 15] (Cq 16 (.exit 0) .skip)))) (.ops [Ck 17 .add 7 1,Cv 7 17])))))))))⟩
def Ah7:CFn:=⟨6,[.tmp 2],(So [Bf 2] (So [Cv 3 0,Cc 4 164 [.t 3],Nt 5 4,Cv 2 5] .ret))⟩
def Ah8:CFn:=⟨9,[.tmp 2],(So [Bf 2] (So [Cv 3 0,Ck 4 .geq 3 0,Cv 5 4,Gtv 6 5 0,Gtk 7 5 .leq 6 1099511627776,Pf 8 5 7,Cv 2 8] .ret))⟩
def Ah9:CFn:=⟨27,[.tmp 4],(So [Bn 4] (Sq (So [Cv 5 1,Ck 6 .lss 5 0] (Cq 6 (.ops [Cj 7 (.mkif 9 (.c (.str [99,97,110,110,111,116,32,98,101,32,110,101,103,97,116,105,118,101]))),⟨none,none,.panic (.t 7)⟩]) .skip)) (Sq (So [Cv 8 1,Cv 9 0,Cj 10 (.capS (.t 9)),Cv 11 0,Le 12 11,Cb 13 .sub 10 12,Cb 14 .sub 8 13,Cv 1 14] (So [Cv 15 1,Ck 16 .gtr 15 0] (Cq 16 (.ops [Cv 17 0,Cv 18 0,Cj 19 (.capS (.t 18)),Cj 20 (.sliceS 1 (.t 17) none (some (.t 19)) none),Cv 21 1,Cj 22 (.appendZ 8 [Zi] (.t 20) (.t 21)),Cv 23 0,Le 24 23,Cj 25 (.sliceS 1 (.t 22) none (some (.t 24)) none),Cv 0 25]) .skip))) (So [Cv 26 0,Cv 4 26] .ret))))⟩
def Aia:CFn:=⟨16,[.tmp 4],(So [Bf 4] (So [Cv 5 1,Ck 6 .geq 5 0,Cv 7 6,Gtv 8 7 1,Gtv 9 7 0,Cg 10 7 true (.nilc (.t 9)),Gtf 11 7 10 0,Gtl 12 7 11,Cg 13 7 true (.lenS (.t 12)),Gtb 14 7 .lss 8 13,Pf 15 7 14,Cv 4 15] .ret))⟩
def Al2:CFn:=⟨13,[.tmp 2],(So [Bf 2] (So [Cv 3 0,Cj 4 (.bin .eql (.t 3) (.c (.nilp)) true .ptr),Cv 5 4,Gfv 6 5 0,Cg 7 5 false (.nilc (.t 6)),Gff 8 5 7 0,Gfl 9 5 8,Cg 10 5 false (.lenS (.t 9)),Gfk 11 5 .eql 10 0,Pt 12 5 11,Cv 2 12] .ret))⟩
def Aib:CFn:=⟨41,[],(Sq (.drawn [Dw 6 0,Dw 7 0,Dn 8 7,Df 9 8 0,Dl 10 9,Dw 11 1,DJ 12 2 10 11,Df 13 12 1,Dl 14 13,Dn 15 6,Df 16 15 1,⟨Cj 17 (.iaddrA 5 1 (.t 16) (.t 14)),[16,14]⟩,Dl 18 17,⟨Ck 19 .sub 18 1,[18]⟩,Dn 20 6,Df 21 20 1,⟨Cj 22 (.iaddrA 5 1 (.t 21) (.t 14)),[21,14]⟩] [] [⟨DSt 1 22 19,[],[]⟩]) (Sq (.drawn [Dw 23 0,Dw 24 2,Dn 25 23,Df 26 25 1,⟨Cj 27 (.iaddrA 5 1 (.t 26) (.t 24)),[26,24]⟩,Dl 28 27,⟨Ck 29 .add 28 1,[28]⟩,Dn 30 23,Df 31 30 1,⟨Cj 32 (.iaddrA 5 1 (.t 31) (.t 24)),[31,24]⟩] [] [⟨DSt 1 32 29,[],[]⟩]) (.ops [Cv 33 0,Nc 34 33,Cf 35 34 0,Cl 36 35,Cv 37 1,Cv 38 2,Ci 39 2 36 37,Cf 40 39 1,Cs 1 40 38])))⟩
def Aic:CFn:=⟨8,[.tmp 2],(So [Bn 2] (Sq (So [Cv 3 0,Cj 4 (.bin .eql (.t 3) (.c (.nils)) true .nilS)] (Cq 4 (So [Bn 2] .ret) .skip)) (So [Bs 5 0 [] [],Cv 6 0,Cap 7 2 16 5 6,Cv 2 7] .ret)))⟩
def Aid:CFn:=⟨27,[],(.scope (Sq (.label 0) (So [Cl 6 1,Le 7 6,Cm 8 0] (.block 0 (.loop (So [Cb 9 .lss 8 7] (Sq (Cq 9 .skip (.exit 0)) (Sq (.block 1 (So [Cv 10 8,Ci 11 2 6 8,Cn 12 2 11,Al 5 [Zi,Zi],Cv 4 10,Cs 2 5 12] (So [Cf 13 5 1,Cl 14 13,Cl 15 2,Cb 16 .eql 14 15,Cv 17 16,Gtv 18 17 0,Gtv 19 17 4,Gtf 20 17 5 0,Gtf 21 17 20 0,Gtl 22 17 21,Cg 23 17 true (.callv (.t 18) [.t 19,.t 22]),Cg 24 17 true (.un .not (.t 23)),Pf 25 17 24] (Cq 25 (.exit 0) .skip)))) (.ops [Ck 26 .add 8 1,Cv 8 26])))))))))⟩
def Aie:CFn:=⟨15,[.tmp 4],(So [Cm 4 0] (So [Cv 6 0,Cv 7 1,Cc 8 138 [.t 6,.t 7,(.c (.fn (.func 148) [] []))],Cv 5 8] (Sq (So [Cv 9 5,Ck 10 .eql 9 0] (Cq 10 (.ops [Cv 11 0,Cv 12 1,Cc 13 140 [.t 11,.t 12,Cz 4]]) .skip)) (So [Cv 14 5,Cv 4 14] .ret))))⟩
def Aif:CFn:=⟨28,[.tmp 4],(So [Cm 4 0] (So [Cv 6 0,Cv 7 1,Cc 8 138 [.t 6,.t 7,(.c (.fn (.func 150) [] []))],Cv 5 8] (Sq (So [Cv 9 5,Ck 10 .eql 9 0] (Cq 10 (So [Cv 11 0,Cv 12 1,Cc 13 140 [.t 11,.t 12,Cz 1]] (.ops [Cv 14 0,Nc 15 14,Cf 16 15 0,Cl 17 16,Cv 18 1,Ci 19 2 17 18,Cf 20 19 0,Cf 21 20 0,Cl 22 21,Ck 23 .add 22 1,Ci 24 2 17 18,Cf 25 24 0,Cf 26 25 0,Cs 1 26 23])) .skip)) (So [Cv 27 5,Cv 4 27] .ret))))⟩
def Aig:CFn:=⟨9,[.tmp 2],(So [Bn 2] (So [Cv 4 0,Cc 5 166 [.t 4],Cv 3 5] (So [Cv 6 3,Cc 7 129 [.t 6]] (So [Cv 8 3,Cv 2 8] .ret))))⟩
def Aih:CFn:=⟨4,[.tmp 2],(So [Bx 1 1 0,Cj 2 (.mv (.c (.nilf)))] (So [Cj 3 (.mkfn (.func 167) [] [.t 1]),Cv 2 3] .ret))⟩
def Aii:CFn:=⟨24,[.tmp 6],(So [Cm 6 0] (.scope (Sq (So [Cm 6 1] (So [Cv 7 0,Cc 8 99 [.t 7]] (Cq 8 (.goto 0) .skip))) (Sq (So [Cm 6 3] (So [Cv 9 0,Cv 10 1,Cc 11 102 [.t 9,.t 10],Nt 12 11] (Cq 12 (.goto 0) .skip))) (Sq (So [Cm 6 8] (So [Cv 13 2,Cv 14 0,Nc 15 14,Cf 16 15 0,Cl 17 16,Cv 18 1,Ci 19 2 17 18,Cn 20 2 19,Cj 21 (.callv (.t 13) [.t 20]),Nt 22 21] (Cq 22 (.goto 0) .skip))) (Sq (So [Cm 6 0] .ret) (Sq (.label 0) (So [Cv 23 6,Cv 6 23] .ret))))))))⟩
def Aij:CFn:=⟨6,[.tmp 2],(So [Bx 1 2 0,Bf 2] (So [Cf 3 1 1,Cl 4 3,Ck 5 .eql 4 2,Cv 2 5] .ret))⟩
def Aek:CC:= .ops [Cv 22 0,Cj 23 (.bin .neq (.t 22) (.c (.int .u8 ((2:Nat):Int))) true .pint),Cv 24 23,Gtv 25 24 0,Cg 26 24 true (.bin .neq (.t 25) (.c (.int .u8 ((3:Nat):Int))) true .pint),Pf 27 24 26,Cv 28 27,Gfv 29 28 2,Cg 30 28 false (.bin .eql (.t 29) (.c Zu) true .pint),Pt 31 28 30,Cv 32 31,Gfv 33 32 2,Cg 34 32 false (.bin .gtr (.t 33) (.c (UN 9223372036854775808)) true .pint),Pt 35 32 34,Cv 36 35,Gfv 37 36 3,Gfv 38 36 2,Gfb 39 36 .geq 37 38,Pt 40 36 39,Cv 21 40]
def Aab:CC:= .ops [Cv 72 13,Cv 73 0,Cv 74 2,Cv 75 15,Cx 76 .u64 75,Cb 77 .add 74 76,Cv 78 3,Cv 79 15,Cv 80 12,Bu 81 [Zy,Zi,Zu,Zu,Zi,Zi] [(0,1,(.t 73)),(2,1,(.t 77)),(3,1,(.t 78)),(4,1,(.t 79)),(5,1,(.t 80))],Cv 82 16,Cc 83 170 [.t 82],Bu 84 [Zy,Zi,Zu,Zu,Zi,Zi,.nils] [(0,6,(.t 81)),(6,1,(.t 83))],Bs 85 1 [Zy,Zi,Zu,Zu,Zi,Zi,.nils] [(0,7,(.t 84))],Cap 86 7 72 72 85,Cv 13 86]
def co:CC:= .ops [Ck 87 .add 54 1,Cv 54 87]
def P3:CC:=So [Cb 55 .lss 54 53] (Sq (Cq 55 .skip (.exit 1)) (Sq (.block 2 (So [Cv 56 54,Cv 15 56] (So [Cv 57 4,Cv 58 14,Cv 59 15,Cb 60 .mul 58 59,Cv 61 14,Cv 62 15,Cb 63 .mul 61 62,Cv 64 14,Cb 65 .add 63 64,Cv 66 4,Le 67 66,Cj 68 (.maxmin false (.t 65) (.t 67)),Cv 69 4,Le 70 69,Cj 71 (.sliceS 2 (.t 57) (some (.t 60)) (some (.t 68)) (some (.t 70))),Cv 16 71] Aab))) co))
def P4:CC:=So [Cv 88 13,Cv 10 88,Cm 11 0] .ret
def cf141:CFn:=⟨89,[.tmp 10,.tmp 11],(So [Bn 10,Cm 11 0] (So [Cv 17 1,Cv 18 4,Le 19 18,Cc 20 168 [.t 17,.t 19],Cv 12 20] (Sq (.block 0 (Sq Aek (Cq 21 (So [Bn 10,Cm 11 2] .ret) (So [Cv 42 12,Ck 43 .eql 42 0,Cv 44 43,Gfv 45 44 4,Cg 46 44 false (.callv (.c (.fn (.func 169) [] [])) [.t 45,(.c (.fn (.func 122) [] []))]),Pt 47 44 46,Cv 41 47] (Cq 41 (So [Bn 10,Cm 11 2] .ret) (So [Cv 49 12,Ck 50 .gtr 49 65535,Cv 48 50] (Cq 48 (So [Bn 10,Cm 11 5] .ret) .skip))))))) (So [Bn 13] (So [Cv 51 1,Cc 52 86 [.t 51],Cv 14 52] (Sq (So [Cv 53 12,Cm 54 0] (.block 1 (.loop P3))) P4))))))⟩
def Aik:CFn:=⟨28,[],(So [Bx 2 7 0] (Sq (.drawn [Dl 6 1,Dn 7 6,Df 8 7 2,Df 9 8 2,Dl 10 9,Df 11 2 6,Dl 12 11] [] [⟨⟨Cc 13 143 [.t 10,.t 12],[10,12]⟩,[Dw 5 13,De 14 5 0,De 15 5 1,Dw 3 14,Dw 4 15],[]⟩]) (So [Cv 16 4,Ck 17 .eql 16 0,Cv 18 4,Cc 19 48 [.t 17,.t 18]] (.drawn [Dl 20 1,Dl 21 1,Dn 22 21,Df 23 22 10,Df 24 2 0,DN 25 6 24,Dw 26 3] [] [⟨⟨Cc 27 104 [.t 20,.t 23,.t 25,.t 26],[20,23,25,26]⟩,[],[]⟩]))))⟩
def cf143:CFn:=⟨44,[.tmp 4,.tmp 5],(So [Bn 4,Cm 5 0] (Sq (.block 0 (So [Cv 10 0,Cc 11 86 [.t 10],Ck 12 .eql 11 0,Cv 13 12,Gfv 14 13 1,Cg 15 13 false (.callv (.c (.fn (.func 169) [] [])) [.t 14,(.c (.fn (.func 122) [] []))]),Pt 16 13 15,Cv 9 16] (Cq 9 (So [Bn 4,Cm 5 2] .ret) (So [Cv 18 1,Le 19 18,Cv 20 0,Cc 21 86 [.t 20],Cb 22 .gtr 19 21,Cv 17 22] (Cq 17 (So [Bn 4,Cm 5 5] .ret) .skip))))) (So [Cv 23 1,Le 24 23,Bs 25 1 [Zi] [(0,1,(.t 24))],Cv 6 25] (Sq (So [Cv 26 1,Le 27 26,Cm 28 0] (.block 1 (.loop (So [Cb 29 .lss 28 27] (Sq (Cq 29 .skip (.exit 1)) (Sq (.block 2 (So [Ci 30 2 26 28,Cn 31 2 30,Al 8 [Zi,Zi],Cs 2 8 31] (.ops [Cv 32 6,Cf 33 8 0,Cl 34 33,Cf 35 8 1,Cl 36 35,Ck 37 .add 36 1,Bs 38 2 [Zi,Zi] [(0,1,(.t 34)),(1,1,(.t 37))],Cap 39 1 8 32 38,Cv 6 39]))) (.ops [Ck 40 .add 28 1,Cv 28 40]))))))) (So [Cv 41 0,Cv 42 6,Cc 43 171 [.t 41,.t 42],Cv 4 43,Cm 5 0] .ret)))))⟩
def Ael:CC:= .ops [Bu 10 [Zu,Zi] [(0,1,(.c (UN 1280591427))),(1,1,(Cz 4))],Cf 11 2 0,Cl 12 11,Cx 13 .u64 12,Bu 14 [Zu,Zi] [(0,1,(.t 13)),(1,1,(Cz 1))],Bu 15 [Zu,Zi] [(1,1,(Cz 3))],Cf 16 2 2,Cl 17 16,Bu 18 [Zu,Zi] [(0,1,(.t 17)),(1,1,(Cz 8))],Cf 19 2 3,Cl 20 19,Bu 21 [Zu,Zi] [(0,1,(.t 20)),(1,1,(Cz 8))],Cf 22 2 1,Cl 23 22,Cx 24 .u64 23,Bu 25 [Zu,Zi] [(0,1,(.t 24)),(1,1,(Cz 4))],Cf 26 2 4,Cl 27 26,Cx 28 .u64 27,Bu 29 [Zu,Zi] [(0,1,(.t 28)),(1,1,(Cz 4))],Cf 30 2 5,Cl 31 30,Cx 32 .u64 31,Bu 33 [Zu,Zi] [(0,1,(.t 32)),(1,1,(Cz 4))],Bs 34 8 [Zu,Zi,Zu,Zi,Zu,Zi,Zu,Zi,Zu,Zi,Zu,Zi,Zu,Zi,Zu,Zi] [(0,2,(.t 10)),(2,2,(.t 14)),(4,2,(.t 15)),(6,2,(.t 18)),(8,2,(.t 21)),(10,2,(.t 25)),(12,2,(.t 29)),(14,2,(.t 33))],Cc 35 172 [.t 34],Cv 6 35]
def Ail:CFn:=⟨50,[.tmp 4,.tmp 5],(So [Bx 2 6 0,Bn 4,Cm 5 0] (Sq (So [Cn 7 6 2,Cc 8 74 [.t 7],Nt 9 8] (Cq 9 (So [Bn 4,Cm 5 2] .ret) .skip)) (Sq Ael (So [Cv 36 6,Cv 37 6,Le 38 37,Cj 39 (.bin .sub (Cz 60) (.t 38) true .pint),Cj 40 (.appendZ 1 [Zy] (.t 36) (.t 39)),Cv 6 40] (So [Cv 41 6,Cv 42 1,Cv 43 6,Cc 44 71 [.t 42,.t 43],Bu 45 [Zu,Zi] [(0,1,(.t 44)),(1,1,(Cz 4))],Bs 46 1 [Zu,Zi] [(0,2,(.t 45))],Cc 47 172 [.t 46],Bs 48 2 [.nils,.nils] [(0,1,(.t 41)),(1,1,(.t 47))],Cc 49 114 [.t 48],Cv 4 49,Cm 5 0] .ret)))))⟩
def Aim:CFn:=⟨15,[.tmp 2,.tmp 3],(So [Cm 2 0,Cm 3 0] (Sq (So [Cv 5 0,Cc 6 99 [.t 5]] (Cq 6 (So [Cm 2 0,Cm 3 1] .ret) .skip)) (So [Cv 7 0,Cc 8 173 [.t 7,Cz 1],Cv 4 8] (Sq (So [Cv 9 4,Ck 10 .lss 9 0] (Cq 10 (So [Cm 2 0,Cm 3 9] .ret) .skip)) (So [Cv 11 0,Cv 12 4,Cc 13 140 [.t 11,.t 12,Cz 2]] (So [Cv 14 4,Cv 2 14,Cm 3 0] .ret))))))⟩
def Ain:CFn:=⟨32,[.tmp 4,.tmp 5],(So [Bn 4,Cm 5 0] (So [Cv 9 0,Cc 10 115 [.t 9],Nc 11 10,Cn 12 2 11,Bu 13 [.nils,Zi] [(0,2,(.t 12))],Al 6 [.nils,Zi],Cs 2 6 13] (So [Cv 15 1,Cf 16 6 0,Cj 17 (.mkfn (.func 154) [.t 16] []),Cc 18 153 [.t 15,.t 17],Cv 14 18,Ce 19 14 0,Ce 20 14 1,Cv 7 19,Cv 8 20] (Sq (So [Cv 21 8,Ck 22 .eql 21 0,Cv 23 22,Gtv 24 23 0,Cg 25 23 true (.bin .neq (.t 24) (.c (.nilp)) true .ptr),Pf 26 23 25] (Cq 26 (.ops [Cv 27 0,Cn 28 2 6,Nc 29 27,Cs 2 29 28]) .skip)) (So [Cv 30 7,Cv 31 8,Cv 4 30,Cv 5 31] .ret)))))⟩
def Aio:CFn:=⟨6,[.tmp 2],(So [Cj 2 (.mv (.c Zw))] (So [Cv 3 0,Bs 4 1 [.nils] [(0,1,(.t 3))],Cc 5 155 [.t 4],Cv 2 5] .ret))⟩
def Aip:CFn:=⟨10,[.tmp 2],(So [Cj 2 (.mv (.c (.nilp)))] (Sq (So [Cv 3 0,Cj 4 (.bin .eql (.t 3) (.c (.nilp)) true .ptr)] (Cq 4 (So [Bu 5 [.nils,Zi] [],Bx 6 2 5,Cv 2 6] .ret) .skip)) (So [Cv 7 0,Nc 8 7,Cf 9 8 0,Cv 2 9] .ret)))⟩
def Aiq:CFn:=⟨44,[.tmp 4,.tmp 5],(So [Bn 4,Cm 5 0] (Sq (.block 0 (So [Cv 8 1,Ck 9 .lss 8 0,Cv 7 9] (Cq 7 (So [Bn 4,Cm 5 2] .ret) (So [Cv 11 1,Cv 12 0,Nc 13 12,Cf 14 13 0,Cl 15 14,Le 16 15,Cb 17 .gtr 11 16,Cv 10 17] (Cq 10 (So [Bn 4,Cm 5 4] .ret) .skip))))) (So [Cv 18 0,Nc 19 18,Cf 20 19 0,Cl 21 20,Cv 22 1,Cv 23 1,Cj 24 (.sliceS 1 (.t 21) none (some (.t 22)) (some (.t 23))),Cv 6 24] (Sq (.drawn [Dw 25 0,Dw 26 0,Dw 27 0,Dn 28 27,Df 29 28 0,Dl 30 29,Dw 31 1,⟨Cj 32 (.sliceS 1 (.t 30) (some (.t 31)) none none),[30,31]⟩,Dw 33 0,Dn 34 33,Df 35 34 1,Dl 36 35,Dw 37 1,⟨Cb 38 .add 36 37,[36,37]⟩,Dn 39 25,Df 40 39 0] [] [⟨DSt 1 40 32,[Dn 41 26,Df 42 41 1],[Dw 26 0,Dw 37 1,⟨Cb 38 .add 36 37,[36,37]⟩]⟩,⟨DSt 1 42 38,[],[]⟩]) (So [Cv 43 6,Cv 4 43,Cm 5 0] .ret)))))⟩
def Air:CFn:=⟨9,[.tmp 4],(So [Bf 4] (So [Cv 5 0,Cv 6 1,Cc 7 157 [.t 5,.t 6],Ck 8 .geq 7 0,Cv 4 8] .ret))⟩
def Ais:CFn:=⟨5,[.tmp 2],(So [Bf 2] (So [Cv 3 0,Cj 4 (.bin .neq (.t 3) (.c Zy) true .pint),Cv 2 4] .ret))⟩
def Ait:CFn:=⟨8,[.tmp 2],(So [Bx 1 3 0,Cm 2 0] (So [Cf 3 1 1,Cl 4 3,Cf 5 1 2,Cl 6 5,Cb 7 .mul 4 6,Cv 2 7] .ret))⟩
def Aiu:CFn:=⟨22,[],(.scope (Sq (.label 0) (So [Cl 6 1,Le 7 6,Cm 8 0] (.block 0 (.loop (So [Cb 9 .lss 8 7] (Sq (Cq 9 .skip (.exit 0)) (Sq (.block 1 (So [Cv 10 8,Ci 11 1 6 8,Cl 12 11,Cv 4 10,Cv 5 12] (So [Cv 13 0,Cv 14 5,Cl 15 2,Cv 16 4,Ci 17 1 15 16,Cl 18 17,Cj 19 (.callv (.t 13) [.t 14,.t 18]),Nt 20 19] (Cq 20 (.exit 0) .skip)))) (.ops [Ck 21 .add 8 1,Cv 8 21])))))))))⟩
def Aiv:CFn:=⟨4,[.tmp 2],(So [Bx 1 1 0,Cj 2 (.mv (.c (.nilf)))] (So [Cj 3 (.mkfn (.func 199) [] [.t 1]),Cv 2 3] .ret))⟩
def Aiw:CFn:=⟨6,[.tmp 2],(So [Bx 1 2 0,Bf 2] (So [Cf 3 1 1,Cl 4 3,Ck 5 .neq 4 4,Cv 2 5] .ret))⟩
def Aix:CFn:=⟨16,[.tmp 2],(So [Bx 1 2 0,Bf 2] (So [Cn 3 2 1,Cc 4 139 [.t 3],Cv 5 4,Gff 6 5 1 1,Gfl 7 5 6,Gfk 8 5 .eql 7 3,Pt 9 5 8,Cv 10 9,Gtf 11 10 1 0,Gtf 12 10 11 0,Gtl 13 10 12,Gtk 14 10 .lss 13 1099511627776,Pf 15 10 14,Cv 2 15] .ret))⟩
def Aiy:CFn:=⟨5,[.tmp 2],(So [Bn 2] (So [Cv 3 0,Cc 4 191 [(.c (.nils)),.t 3],Cv 2 4] .ret))⟩
def Aiz:CFn:=⟨14,[],(So [Cl 4 1,Cj 5 (.rangeM (.t 4))] (.block 0 (.loop (So [Cj 6 (.nextM (.t 5)),Ce 7 6 0] (Sq (Cq 7 .skip (.exit 0)) (.block 1 (So [Cj 8 (.entry (.t 5)),Ce 9 8 0,Cv 3 9] (So [Cv 10 0,Cv 11 3,Cj 12 (.callv (.t 10) [.t 11]),Nt 13 12] (Cq 13 .ret .skip)))))))))⟩
def Ai0:CFn:=⟨21,[.tmp 4],(So [Cm 4 0] (So [Cv 6 0,Cc 7 86 [.t 6],Cv 5 7] (Sq (So [Cv 8 5,Ck 9 .eql 8 0,Cv 10 9,Gfv 11 10 1,Gfk 12 10 .lss 11 0,Pt 13 10 12] (Cq 13 (So [Cm 4 0] .ret) .skip)) (So [Cv 14 1,Cv 15 5,Cb 16 .add 14 15,Ck 17 .sub 16 1,Cv 18 5,Cb 19 .quo 17 18,Cj 20 (.maxmin true (Cz 1) (.t 19)),Cv 4 20] .ret))))⟩
def Ai1:CFn:=⟨9,[.tmp 4],(So [Bf 4] (So [Cv 5 0,Cv 6 1,Cc 7 192 [.t 5,.t 6],Ck 8 .geq 7 0,Cv 4 8] .ret))⟩
def Ai2:CFn:=⟨8,[.tmp 2],(So [Bn 2] (Sq (So [Cv 3 0,Cj 4 (.bin .eql (.t 3) (.c (.nils)) true .nilS)] (Cq 4 (So [Bn 2] .ret) .skip)) (So [Bs 5 0 [] [],Cv 6 0,Cap 7 2 16 5 6,Cv 2 7] .ret)))⟩
def Ai3:CFn:=⟨25,[.tmp 4],(So [Bn 4] (So [Al 5 [.nils]] (Sq (So [Cv 8 1,Le 9 8,Cm 10 0] (.block 0 (.loop (So [Cb 11 .lss 10 9] (Sq (Cq 11 .skip (.exit 0)) (Sq (.block 1 (So [Ci 12 1 8 10,Cl 13 12,Cv 7 13] (.ops [Cv 14 7,Cx 15 .u64 14,Cc 16 193 [.t 5,.t 15,Cz 4]]))) (.ops [Ck 17 .add 10 1,Cv 10 17]))))))) (So [Cc 18 194 [.t 5],Cv 19 0,Cv 20 1,Le 21 20,Cj 22 (.bin .mul (Cz 4) (.t 21) true .pint),Cb 23 .sub 19 22,Cj 24 (.appendZ 1 [Zy] (.t 18) (.t 23)),Cv 4 24] .ret))))⟩
def Ai4:CFn:=⟨7,[.tmp 2],(So [Bn 2] (So [Al 3 [.nils]] (So [Cv 4 0,Cc 5 195 [.t 3,.t 4]] (So [Cc 6 194 [.t 3],Cv 2 6] .ret))))⟩
def uf:CC:=So [Cv 7 12] (.ops [Cv 8 13])
def cq:CC:= .block 1 (So [Cl 14 5,Ck 15 .lss 14 0,Cv 16 15,Gfv 17 16 8,Gfl 18 16 6,Gfb 19 16 .lss 17 18,Pt 20 16 19] (Cq 20 (.ops [Cv 21 7,Cv 22 8,Cs 1 5 21,Cs 1 6 22]) .skip))
def cf173:CFn:=⟨24,[.tmp 4],(So [Cm 4 0] (So [Al 5 [Zi],Al 6 [Zi],⟨none,none,.store 1 (.t 5) (.c (.int .i64 (-1)))⟩,⟨none,none,.store 1 (.t 6) (Cz 0)⟩] (Sq (So [Cv 9 0,Cv 10 1,Cc 11 44 [.t 9,.t 10]] (.block 0 (.rangeFunc (.t 11) [12,13] uf cq))) (So [Cl 23 5,Cv 4 23] .ret))))⟩
def Ai5:CFn:=⟨30,[.tmp 4,.tmp 5],(So [Bn 4,Cm 5 0] (Sq (So [Cv 10 0,Le 11 10,Cm 12 0] (.block 0 (.loop (So [Cb 13 .lss 12 11] (Sq (Cq 13 .skip (.exit 0)) (Sq (.block 1 (So [Ci 14 1 10 12,Cl 15 14,Cv 7 15] (So [Cv 17 1,Cv 18 7,Cj 19 (.callv (.t 17) [.t 18]),Cv 16 19,Ce 20 16 0,Ce 21 16 1,Cv 8 20,Cv 9 21] (Sq (So [Cv 22 9,Ck 23 .neq 22 0] (Cq 23 (So [Cv 24 9,Bn 4,Cv 5 24] .ret) .skip)) (.ops [Cv 25 4,Cv 26 8,Cap 27 1 8 25 26,Cv 4 27]))))) (.ops [Ck 28 .add 12 1,Cv 12 28]))))))) (So [Cv 29 4,Cv 4 29,Cm 5 0] .ret)))⟩
def Ai6:CFn:=⟨32,[.tmp 4,.tmp 5],(So [Bn 4,Cm 5 0] (Sq (So [Cv 9 1,Ck 10 .lss 9 1,Cv 11 10,Gfv 12 11 1,Gfk 13 11 .gtr 12 8,Pt 14 11 13] (Cq 14 (So [Bn 4,Cm 5 2] .ret) .skip)) (So [Cv 16 0,Cv 17 1,Cc 18 116 [.t 16,.t 17],Cv 15 18,Ce 19 15 0,Ce 20 15 1,Cv 6 19,Cv 7 20] (Sq (So [Cv 21 7,Ck 22 .neq 21 0] (Cq 22 (So [Cv 23 7,Bn 4,Cv 5 23] .ret) .skip)) (So [Cv 25 6,Cc 26 70 [.t 25],Cv 24 26,Ce 27 24 0,Ce 28 24 1,Cv 8 27,Cv 7 28] (So [Cv 29 8,Bs 30 1 [Zu] [(0,1,(.t 29))],Cv 31 7,Cv 4 30,Cv 5 31] .ret))))))⟩
def Ai7:CFn:=⟨6,[.tmp 2],(So [Cj 2 (.mv (.c Zw))] (So [Cv 3 0,Cc 4 179 [(.c (.int .u32 ((4294967295:Nat):Int))),.t 3],Cj 5 (.un .xor (.t 4)),Cv 2 5] .ret))⟩
def Ai8:CFn:=⟨19,[.tmp 4],(So [Cm 4 0] (Sq (So [Cv 6 0,Le 7 6,Cm 8 0] (.block 0 (.loop (So [Cb 9 .lss 8 7] (Sq (Cq 9 .skip (.exit 0)) (Sq (.block 1 (So [Cv 10 8,Cv 5 10] (So [Cv 11 1,Cv 12 0,Cv 13 5,Ci 14 1 12 13,Cl 15 14,Cj 16 (.callv (.t 11) [.t 15])] (Cq 16 (So [Cv 17 5,Cv 4 17] .ret) .skip)))) (.ops [Ck 18 .add 8 1,Cv 8 18]))))))) (So [Cj 4 (.mv (.c (.int .i64 (-1))))] .ret)))⟩
def Ai9:CFn:=⟨14,[],(So [Cl 4 1,Cj 5 (.rangeM (.t 4))] (.block 0 (.loop (So [Cj 6 (.nextM (.t 5)),Ce 7 6 0] (Sq (Cq 7 .skip (.exit 0)) (.block 1 (So [Cj 8 (.entry (.t 5)),Ce 9 8 0,Cv 3 9] (So [Cv 10 0,Cv 11 3,Cj 12 (.callv (.t 10) [.t 11]),Nt 13 12] (Cq 13 .ret .skip)))))))))⟩
def Y3:CC:= .ops [Cv 5 7]
def Y4:CC:= .block 1 (.ops [Cl 8 2,Cv 9 5,Bs 10 1 [Zi] [(0,1,(.t 9))],Cap 11 1 8 8 10,Cs 1 2 11])
def cf191:CFn:=⟨13,[.tmp 4],(So [Bx 2 1 0,Bn 4] (Sq (So [Cv 6 1] (.block 0 (.rangeFunc (.t 6) [7] Y3 Y4))) (So [Cl 12 2,Cv 4 12] .ret)))⟩
def Aja:CFn:=⟨19,[.tmp 4],(So [Cm 4 0] (Sq (So [Cv 6 0,Le 7 6,Cm 8 0] (.block 0 (.loop (So [Cb 9 .lss 8 7] (Sq (Cq 9 .skip (.exit 0)) (Sq (.block 1 (So [Cv 10 8,Cv 5 10] (So [Cv 11 1,Cv 12 0,Cv 13 5,Ci 14 2 12 13,Cn 15 2 14,Cj 16 (.callv (.t 11) [.t 15])] (Cq 16 (So [Cv 17 5,Cv 4 17] .ret) .skip)))) (.ops [Ck 18 .add 8 1,Cv 8 18]))))))) (So [Cj 4 (.mv (.c (.int .i64 (-1))))] .ret)))⟩
def Ajb:CFn:=⟨14,[.tmp 6],(So [Cm 6 0] (So [Cv 7 0,Cv 8 1,Cv 9 2,Cc 10 212 [.t 8,.t 9],Ce 11 10 0,Ce 12 10 1,Cc 13 211 [.t 7,.t 11,.t 12],Cv 6 13] .ret))⟩
def Ajc:CFn:=⟨10,[.tmp 2],(So [Bn 2] (Sq (So [Cv 3 0,Cj 4 (.bin .eql (.t 3) (.c (.nilp)) true .ptr)] (Cq 4 (So [Bn 2] .ret) .skip)) (So [Cv 5 0,Nc 6 5,Cf 7 6 0,Cl 8 7,Cc 9 63 [.t 8],Cv 2 9] .ret)))⟩
def Ajd:CFn:=⟨11,[.tmp 4],(So [Cm 4 0] (So [Cv 5 0,Cv 6 1,Cc 7 213 [.t 6,(.c (.fn (.func 214) [] []))],Ce 8 7 0,Ce 9 7 1,Cc 10 211 [.t 5,.t 8,.t 9],Cv 4 10] .ret))⟩
def Aje:CFn:=⟨11,[.tmp 4],(So [Cj 4 (.mv (.c Zw))] (So [Cc 6 200 [(.c (.fn (.func 201) [] []))],Al 5 (List.replicate 256 Zw),Cs 256 5 6] (So [Cv 7 0,Cv 8 1,Cj 9 (.mkfn (.func 204) [] [.t 5]),Cc 10 203 [.t 7,.t 8,.t 9],Cv 4 10] .ret)))⟩
def Ajf:CFn:=⟨33,[.tmp 6],(So [Cm 6 0] (Sq (.block 0 (So [Cv 8 0,Cj 9 (.bin .eql (.t 8) (.c (.nilp)) true .ptr),Cv 7 9] (Cq 7 (So [Cm 6 1] .ret) (So [Cv 11 2,Ck 12 .neq 11 0,Cv 10 12] (Cq 10 (So [Cv 13 2,Cv 6 13] .ret) (So [Cv 15 1,Le 16 15,Cv 17 0,Nc 18 17,Cf 19 18 0,Cl 20 19,Le 21 20,Cj 22 (.bin .sub (Cz 1048576) (.t 21) true .pint),Cb 23 .gtr 16 22,Cv 14 23] (Cq 14 (So [Cm 6 5] .ret) .skip))))))) (So [Cv 24 0,Cv 25 0,Nc 26 25,Cf 27 26 0,Cl 28 27,Cv 29 1,Cap 30 1 1 28 29,Nc 31 24,Cf 32 31 0,Cs 1 32 30] (So [Cm 6 0] .ret))))⟩
def cu:CC:=So [Cb 30 .lss 29 28] (Sq (Cq 30 .skip (.exit 1)) (Sq (.block 2 (So [Cv 31 29,Cv 7 31] (.ops [Cv 32 6,Cv 33 7,Cv 34 0,Cv 35 7,Cj 36 (.bin .mul (Cz 8) (.t 35) true .pint),Cb 37 .shr 34 36,Cx 38 .u8 37,Ci 39 1 32 33,Cs 1 39 38]))) (.ops [Ck 40 .add 29 1,Cv 29 40])))
def cx:CC:=So [Cv 41 6,Cv 4 41,Cm 5 0] .ret
def cf212:CFn:=⟨42,[.tmp 4,.tmp 5],(So [Bn 4,Cm 5 0] (Sq (.block 0 (So [Cv 9 1,Ck 10 .lss 9 1,Cv 11 10,Gfv 12 11 1,Gfk 13 11 .gtr 12 8,Pt 14 11 13,Cv 8 14] (Cq 8 (So [Bn 4,Cm 5 2] .ret) (So [Cv 16 1,Ck 17 .lss 16 8,Cv 18 17,Gtv 19 18 0,Gtv 20 18 1,Cg 21 18 true (.bin .mul (Cz 8) (.t 20) true .pint),Gtb 22 18 .shr 19 21,Cg 23 18 true (.bin .gtr (.t 22) (.c Zu) true .pint),Pf 24 18 23,Cv 15 24] (Cq 15 (So [Bn 4,Cm 5 3] .ret) .skip))))) (So [Cv 25 1,Cj 26 (.mkslice 1 [Zy] (.t 25) (.t 25)),Cv 6 26] (Sq (So [Cv 27 6,Le 28 27,Cm 29 0] (.block 1 (.loop cu))) cx))))⟩
def Ajg:CFn:=⟨30,[.tmp 4,.tmp 5],(So [Bn 4,Cm 5 0] (Sq (So [Cv 10 0,Le 11 10,Cm 12 0] (.block 0 (.loop (So [Cb 13 .lss 12 11] (Sq (Cq 13 .skip (.exit 0)) (Sq (.block 1 (So [Ci 14 2 10 12,Cn 15 2 14,Al 7 [Zu,Zi],Cs 2 7 15] (So [Cv 17 1,Cn 18 2 7,Cj 19 (.callv (.t 17) [.t 18]),Cv 16 19,Ce 20 16 0,Ce 21 16 1,Cv 8 20,Cv 9 21] (Sq (So [Cv 22 9,Ck 23 .neq 22 0] (Cq 23 (So [Cv 24 9,Bn 4,Cv 5 24] .ret) .skip)) (.ops [Cv 25 4,Cv 26 8,Cap 27 1 1 25 26,Cv 4 27]))))) (.ops [Ck 28 .add 12 1,Cv 12 28]))))))) (So [Cv 29 4,Cv 4 29,Cm 5 0] .ret)))⟩
def Ajh:CFn:=⟨11,[.tmp 2,.tmp 3],(So [Bx 1 2 0,Bn 2,Cm 3 0] (So [Cf 4 1 0,Cl 5 4,Cf 6 1 1,Cl 7 6,Cc 8 212 [.t 5,.t 7],Ce 9 8 0,Ce 10 8 1,Cv 2 9,Cv 3 10] .ret))⟩
def Aji:CFn:=⟨30,[.tmp 6],(So [Cj 6 (.mv (.c Zw))] (Sq (So [Cv 11 1,Le 12 11,Cm 13 0] (.block 0 (.loop (So [Cb 14 .lss 13 12] (Sq (Cq 14 .skip (.exit 0)) (Sq (.block 1 (So [Ci 15 1 11 13,Cl 16 15,Cv 8 16] (So [Cv 17 8,Le 18 17,Cm 19 0] (.block 2 (.loop (So [Cb 20 .lss 19 18] (Sq (Cq 20 .skip (.exit 2)) (Sq (.block 3 (So [Ci 21 1 17 19,Cl 22 21,Cv 10 22] (.ops [Cv 23 2,Cv 24 0,Cv 25 10,Cj 26 (.callv (.t 23) [.t 24,.t 25]),Cv 0 26]))) (.ops [Ck 27 .add 19 1,Cv 19 27]))))))))) (.ops [Ck 28 .add 13 1,Cv 13 28]))))))) (So [Cv 29 0,Cv 6 29] .ret)))⟩
def Ajj:CFn:=⟨15,[.tmp 5],(So [Cj 5 (.mv (.c Zw))] (So [Cv 6 0,Cj 7 (.bin .shr (.t 6) (.c (UN 8)) true .pint),Cv 8 0,Cx 9 .u8 8,Cv 10 1,Cb 11 .xor 9 10,Cj 12 (.iaddrA 256 1 (.t 2) (.t 11)),Cl 13 12,Cb 14 .xor 7 13,Cv 5 14] .ret))⟩
def Al3:CFn:=⟨7,[.cell1 2],(So [Al 2 [Zi]] (So [Cv 3 0,Cj 4 (.mkfn (.func 45) [] [.t 2]),Cc 5 42 [.t 3,.t 4]] (So [Cl 6 2,Cs 1 2 6] .ret)))⟩
def Al4:CFn:=⟨8,[],(.ops [Cv 3 0,Nc 4 3,Cf 5 4 0,Cl 6 5,Cc 7 46 [.t 6,Cz 1],Cs 1 1 7])⟩
def Al5:CFn:=⟨21,[.tmp 4],(So [Cm 4 0] (Sq (So [Cv 5 0,Cc 6 99 [.t 5],Cv 7 6,Gfv 8 7 1,Gfk 9 7 .lss 8 1,Pt 10 7 9,Cv 11 10,Gfv 12 11 1,Gfk 13 11 .gtr 12 4,Pt 14 11 13] (Cq 14 (So [Cm 4 0] .ret) .skip)) (So [Cv 15 0,Cv 16 1,Nc 17 15,Cf 18 17 1,Cj 19 (.iaddrA 5 1 (.t 18) (.t 16)),Cl 20 19,Cv 4 20] .ret)))⟩
def ug:CC:= .drawn [DN 54 2 6,Dw 55 0,Dw 56 15]
 []
 [⟨⟨Cc 57 16 [.t 55,.t 56],[55,56]⟩,[],[DN 54 2 6]⟩,⟨DSt 2 10 54,[Dw 11 57],[]⟩]
def uh:CC:=Sq (So [Cv 41 14,Ck 42 .neq 41 0] (Cq 42 (Sq (.drawn [DN 43 2 6,Dw 44 15,Dw 46 14] [] [⟨⟨Cc 45 17 [.t 44],[44]⟩,[⟨Cb 47 .eql 45 46,[45,46]⟩],[DN 43 2 6,Dw 46 14]⟩,⟨DSt 2 10 43,[Dw 11 47],[Dw 46 14,⟨Cb 47 .eql 45 46,[45,46]⟩]⟩]) .ret) .skip)) (Sq (So [Cv 48 15,Cc 49 17 [.t 48],Ck 50 .eql 49 0] (Cq 50 (.ops [Cn 51 2 6,Cv 52 13,Cc 53 39 [.t 51,.t 52],Cs 2 6 53]) .skip)) (Sq ug .ret))
def ui:CC:=So [Cn 35 2 6,Cv 36 13,Cc 37 38 [.t 35,.t 36],Cv 14 37] (So [Cv 38 0,Cv 39 13,Cc 40 33 [.t 38,.t 39],Cv 15 40] uh)
def U9:CC:=Sq (.drawn [DN 130 2 6,Dw 131 0,Dw 132 0] [] [⟨⟨Cc 133 40 [.t 132],[132]⟩,[],[DN 130 2 6,Dw 131 0]⟩,⟨⟨Cc 134 16 [.t 131,.t 133],[131,133]⟩,[],[DN 130 2 6]⟩,⟨DSt 2 10 130,[Dw 11 134],[]⟩]) .ret
def cf11:CFn:=⟨135,[.cellN 10 2,.tmp 11],(So [Bx 6 2 1,Bx 8 3 3,Al 10 [Zi,.nils],Bf 11] (So [Cv 18 0,Cc 19 13 [.t 18],Cv 12 19] (Sq (.block 0 (So [Cf 21 8 0,Cl 22 21,Ck 23 .geq 22 0,Cv 24 23,Gtf 25 24 8 0,Gtl 26 24 25,Gtk 27 24 .leq 26 5,Pf 28 24 27,Cv 20 28] (Cq 20 (So [Cf 29 6 0,Cl 30 29,Cf 31 8 2,Cl 32 31,Cv 33 4,Cc 34 37 [.t 30,.t 32,.t 33],Cv 13 34] ui) (So [Cf 59 8 0,Cl 60 59,Ck 61 .eql 60 6,Cv 62 61,Gff 63 62 8 0,Gfl 64 62 63,Gfk 65 62 .eql 64 7,Pt 66 62 65,Cv 67 66,Gtv 68 67 12,Cg 69 67 true (.lenS (.t 68)),Gtk 70 67 .gtr 69 0,Pf 71 67 70,Cv 58 71] (Cq 58 (Sq (.drawn [DN 72 2 6,Dw 73 0,Dw 74 0,Dw 75 12,Df 76 8 1,Dl 77 76,⟨Cx 78 .u64 77,[77]⟩,Dw 79 12,⟨Le 80 79,[79]⟩,⟨Cx 81 .u64 80,[80]⟩,⟨Cb 82 .rem 78 81,[78,81]⟩,⟨Cx 83 .i64 82,[82]⟩,DJ 84 4 75 83,Df 85 84 0,Dl 86 85] [] [⟨⟨Cc 87 15 [.t 74,.t 86],[74,86]⟩,[],[DN 72 2 6,Dw 73 0]⟩,⟨⟨Cc 88 16 [.t 73,.t 87],[73,87]⟩,[],[DN 72 2 6]⟩,⟨DSt 2 10 72,[Dw 11 88],[]⟩]) .ret) (So [Cf 90 8 0,Cl 91 90,Ck 92 .eql 91 8,Cv 89 92] (Cq 89 (So [Cv 93 0,Cf 94 8 1,Cl 95 94,Cc 96 15 [.t 93,.t 95],Cv 16 96] (Sq (So [Cf 97 8 1,Cl 98 97,Ck 99 .lss 98 0,Cv 100 99,Gff 101 100 8 1,Gfl 102 100 101,Gfv 103 100 2,Gfb 104 100 .geq 102 103,Pt 105 100 104] (Cq 105 (So [Cn 106 2 6,Cv 107 16,Ck 108 .eql 107 3,Cs 2 10 106,Cv 11 108] .ret) .skip)) (Sq (So [Cm 17 0] (.block 1 (.loop (Sq (So [Cv 109 17,Cv 110 12,Le 111 110,Cb 112 .lss 109 111] (Cq 112 .skip (.exit 1))) (Sq (.block 2 (Sq (.drawn [Dw 115 12,Dw 116 17,DJ 117 4 115 116,Df 118 117 0,Dl 119 118,Df 120 8 1,Dl 121 120,⟨Cb 122 .eql 119 121,[119,121]⟩] [] []) (Cq 122 (Sq (.drawn [DN 123 2 6,Dw 124 0,Dw 125 16] [] [⟨⟨Cc 126 16 [.t 124,.t 125],[124,125]⟩,[],[DN 123 2 6]⟩,⟨DSt 2 10 123,[Dw 11 126],[]⟩]) .ret) .skip))) (.ops [Cv 113 17,Ck 114 .add 113 1,Cv 17 114])))))) (So [Cn 127 2 6,Cv 128 16,Ck 129 .eql 128 8,Cs 2 10 127,Cv 11 129] .ret)))) .skip))))))) U9)))⟩
def cf8:CFn:=⟨23,[.tmp 4],(So [Bf 4] (Sq (So [Cv 6 0,Le 7 6,Cv 8 1,Cb 9 .gtr 7 8] (Cq 9 (So [Bf 4] .ret) .skip)) (Sq (So [Cm 5 0] (.block 0 (.loop (Sq (So [Cv 10 5,Cv 11 0,Le 12 11,Cb 13 .lss 10 12] (Cq 13 .skip (.exit 0))) (Sq (.block 1 (So [Cv 16 0,Cv 17 5,Ci 18 3 16 17,Cf 19 18 2,Cl 20 19,Le 21 20,Ck 22 .gtr 21 6] (Cq 22 (So [Bf 4] .ret) .skip))) (.ops [Cv 14 5,Ck 15 .add 14 1,Cv 5 15])))))) (So [Bt 4] .ret))))⟩
def Al6:CFn:=⟨17,[.tmp 4],(So [Bf 4] (So [Cv 5 1,Cc 6 17 [.t 5],Ck 7 .eql 6 0,Cv 8 7,Gfv 9 8 1,Gfk 10 8 .eql 9 7,Gfv 11 8 10,Gtv 12 11 0,Cg 13 11 true (.callv (.c (.fn (.func 14) [] [])) [.t 12]),Gtk 14 11 .eql 13 0,Cg 15 8 false (.pick (.t 11) (.t 14) (.c (.bool false))),Pt 16 8 15,Cv 4 16] .ret))⟩
def Al7:CFn:=⟨25,[.tmp 6],(So [Bf 6] (So [Cv 10 0,Cv 11 1,Cc 12 41 [.t 10,.t 11],Cv 9 12,Ce 13 9 0,Ce 14 9 1,Cv 7 13,Cv 8 14] (So [Cv 15 8,Cc 16 17 [.t 15],Ck 17 .eql 16 0,Cv 18 17,Gtv 19 18 7,Cg 20 18 true (.b2s (.t 19)),Gtv 21 18 2,Cg 22 18 true (.b2s (.t 21)),Cg 23 18 true (.bin .eql (.t 20) (.t 22) false .pstr),Pf 24 18 23,Cv 6 24] .ret)))⟩
def Al8:CFn:=⟨4,[.tmp 2],(So [Cm 2 0] (So [Cv 3 0,Cv 2 3] .ret))⟩
def Al9:CC:= .ops [Cf 5 2 0,Cl 6 5,Ck 7 .geq 6 2,Cv 8 7,Gtf 9 8 2 0,Gtl 10 8 9,Gtk 11 8 .leq 10 12,Pf 12 8 11,Cv 13 12,Gtf 14 13 2 1,Gtl 15 13 14,Gtk 16 13 .geq 15 2,Pf 17 13 16,Cv 18 17,Gtf 19 18 2 1,Gtl 20 18 19,Gtk 21 18 .leq 20 5,Pf 22 18 21,Cv 23 22,Gtf 24 23 2 2,Gtl 25 23 24,Gtk 26 23 .geq 25 12,Pf 27 23 26,Cv 28 27,Gtf 29 28 2 2,Gtl 30 28 29,Gtk 31 28 .leq 30 30,Pf 32 28 31,Cv 33 32,Gtf 34 33 2 3,Gtl 35 33 34,Gtk 36 33 .geq 35 1,Pf 37 33 36,Cv 38 37,Gtf 39 38 2 3,Gtl 40 38 39,Gtk 41 38 .leq 40 1000,Pf 42 38 41,Cv 43 42,Gtv 44 43 1,Gtk 45 43 .geq 44 1,Pf 46 43 45,Cv 47 46,Gtv 48 47 1,Gtk 49 47 .leq 48 10,Pf 50 47 49,Cv 4 50]
def cf7:CFn:=⟨51,[.tmp 4],(So [Bx 2 4 0,Bf 4] (Sq Al9 .ret))⟩
def Ama:CFn:=⟨41,[.tmp 6,.cellN 7 2,.tmp 8],(So [Bx 3 4 0,Cj 6 (.mv (.c (.nilp))),Al 7 [Zi,.nils],Bf 8] (So [Cn 14 4 3,Cv 15 2,Cc 16 30 [.t 14,.t 15],Cv 13 16,Ce 17 13 0,Ce 18 13 1,Cv 9 17,Cv 10 18] (So [Cv 20 9,Cv 21 1,Bu 22 [.nils,Zu,Zu,.nils,.nils] [(2,1,(.c (UN 1)))],Cc 23 31 [.t 20,.t 21,.t 22],Cv 19 23,Ce 24 19 0,Ce 25 19 1,Cv 11 24,Cv 12 25] (So [Cv 26 11,Cf 27 3 2,Cl 28 27,Cv 29 1,Cc 30 36 [.t 28,.t 29],Cv 31 10,Cc 32 17 [.t 31],Cv 33 12,Cc 34 17 [.t 33],Cb 35 .add 32 34,Ck 36 .eql 35 0,Cv 37 36,Gtv 38 37 11,Cg 39 37 true (.bin .neq (.t 38) (.c (.nilp)) true .ptr),Pf 40 37 39,Cv 6 26,Cs 2 7 30,Cv 8 40] .ret))))⟩
structure Fx (F:T CFn)(K:T (List AV×AV)):Prop where
 f7:Fk F K 7 cf7
 f8:Fk F K 8 cf8
 f10:Fk F K 10 Ama
 f11:Fk F K 11 cf11
 f13:Fk F K 13 Akt
 f14:Fk F K 14 Al3
 f15:Fk F K 15 Akv
 f16:Fk F K 16 Al6
 f17:Fk F K 17 Al8
 f18:Fk F K 18 Akg
 f20:Fk F K 20 Akn
 f21:Fk F K 21 Akl
 f22:Fk F K 22 Akm
 f23:Fk F K 23 Ak9
 f24:Fk F K 24 Ala
 f25:Fk F K 25 Alh
 f30:Fk F K 30 cf30
 f31:Fk F K 31 Akc
 f33:Fk F K 33 Akh
 f34:Fk F K 34 Al7
 f36:Fk F K 36 Akd
 f37:Fk F K 37 cf37
 f38:Fk F K 38 cf38
 f39:Fk F K 39 Aku
 f40:Fk F K 40 Akw
 f41:Fk F K 41 Ake
 f42:Fk F K 42 Akx
 f43:Fk F K 43 cf43
 f44:Fk F K 44 Alg
 f45:Fk F K 45 Al4
 f46:Fk F K 46 Al5
 f47:Fk F K 47 cf47
 f48:Fk F K 48 Akz
 f49:Fk F K 49 Alf
 f50:Fk F K 50 Ali
 f51:Fk F K 51 Ak6
 f52:Fk F K 52 Ak2
 f53:Fk F K 53 Ak7
 f54:Fk F K 54 Alj
 f55:Fk F K 55 Ak3
 f56:Fk F K 56 cf56
 f57:Fk F K 57 Aki
 f58:Fk F K 58 Akj
 f59:Fk F K 59 Alc
 f60:Fk F K 60 Ald
 f61:Fk F K 61 Ale
 f62:Fk F K 62 Ak8
 f63:Fk F K 63 Alp
 f64:Fk F K 64 Alq
 f65:Fk F K 65 Alr
 f66:Fk F K 66 Als
 f67:Fk F K 67 Alu
 f68:Fk F K 68 Alv
 f69:Fk F K 69 Alw
 f70:Fk F K 70 Alx
 f71:Fk F K 71 Aly
 f72:Fk F K 72 Alz
 f73:Fk F K 73 Al0
 f74:Fk F K 74 Al1
 f78:Fk F K 78 Alb
 f79:Fk F K 79 cf79
 f81:Fk F K 81 Ako
 f82:Fk F K 82 Akp
 f83:Fk F K 83 Akq
 f84:Fk F K 84 Akr
 f85:Fk F K 85 Akk
 f86:Fk F K 86 Aks
 f87:Fk F K 87 cf87
 f88:Fk F K 88 Akf
 f89:Fk F K 89 Ak4
 f90:Fk F K 90 Ak5
 f91:Fk F K 91 Ak1
 f92:Fk F K 92 Alk
 f93:Fk F K 93 All
 f94:Fk F K 94 Alm
 f95:Fk F K 95 Aln
 f96:Fk F K 96 Aky
 f97:Fk F K 97 Ak0
 f98:Fk F K 98 Alo
 f99:Fk F K 99 Al2
 f100:Fk F K 100 Aic
 f101:Fk F K 101 Aid
 f102:Fk F K 102 Aia
 f103:Fk F K 103 Ah2
 f104:Fk F K 104 cf104
 f105:Fk F K 105 Ahl
 f106:Fk F K 106 Aie
 f107:Fk F K 107 Ag2
 f108:Fk F K 108 Aif
 f109:Fk F K 109 Ahd
 f110:Fk F K 110 Ah0
 f111:Fk F K 111 Ah1
 f112:Fk F K 112 Ain
 f113:Fk F K 113 Aio
 f114:Fk F K 114 Ag9
 f115:Fk F K 115 Aip
 f116:Fk F K 116 Aiq
 f117:Fk F K 117 Air
 f118:Fk F K 118 Ais
 f119:Fk F K 119 Ahr
 f120:Fk F K 120 Ahs
 f121:Fk F K 121 Aht
 f122:Fk F K 122 Ahu
 f123:Fk F K 123 Ahv
 f124:Fk F K 124 Ahw
 f125:Fk F K 125 Ahx
 f126:Fk F K 126 Ahy
 f127:Fk F K 127 Ahz
 f128:Fk F K 128 cf128
 f130:Fk F K 130 Ahe
 f131:Fk F K 131 Ahf
 f132:Fk F K 132 Ahg
 f133:Fk F K 133 Ahh
 f134:Fk F K 134 Ahi
 f136:Fk F K 136 Aig
 f137:Fk F K 137 Aih
 f138:Fk F K 138 Aii
 f139:Fk F K 139 Aij
 f140:Fk F K 140 Aib
 f141:Fk F K 141 cf141
 f142:Fk F K 142 Aik
 f143:Fk F K 143 cf143
 f144:Fk F K 144 Aiu
 f145:Fk F K 145 Ail
 f146:Fk F K 146 Aim
 f147:Fk F K 147 Ag4
 f148:Fk F K 148 Aiw
 f149:Fk F K 149 Ag5
 f150:Fk F K 150 Aix
 f151:Fk F K 151 Ah3
 f152:Fk F K 152 Ait
 f153:Fk F K 153 Ai5
 f154:Fk F K 154 Ai6
 f155:Fk F K 155 Ai7
 f156:Fk F K 156 Ahp
 f157:Fk F K 157 Ai8
 f160:Fk F K 160 Ah4
 f161:Fk F K 161 Ah5
 f162:Fk F K 162 Ah6
 f163:Fk F K 163 Ah7
 f164:Fk F K 164 Ah8
 f165:Fk F K 165 Ah9
 f166:Fk F K 166 Aiy
 f167:Fk F K 167 Aiz
 f168:Fk F K 168 Ai0
 f169:Fk F K 169 Ai1
 f170:Fk F K 170 Ai2
 f171:Fk F K 171 Ai3
 f172:Fk F K 172 Ai4
 f173:Fk F K 173 cf173
 f174:Fk F K 174 Ag8
 f175:Fk F K 175 Aha
 f176:Fk F K 176 Ahb
 f177:Fk F K 177 Ahc
 f178:Fk F K 178 Aiv
 f179:Fk F K 179 Aje
 f191:Fk F K 191 cf191
 f192:Fk F K 192 Aja
 f193:Fk F K 193 Ajb
 f194:Fk F K 194 Ajc
 f195:Fk F K 195 Ajd
 f196:Fk F K 196 Ahm
 f197:Fk F K 197 Ahn
 f198:Fk F K 198 Aho
 f199:Fk F K 199 Ai9
 f203:Fk F K 203 Aji
 f204:Fk F K 204 Ajj
 f211:Fk F K 211 Ajf
 f212:Fk F K 212 cf212
 f213:Fk F K 213 Ajg
 f214:Fk F K 214 Ajh
