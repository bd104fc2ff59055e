/- A part of a proof. No conditions. -/
import Derived.Test.YtcjeehebikeghaaGreatDoorRAz
set_option linter.unusedVariables false
set_option linter.unusedSimpArgs false
set_option maxRecDepth 100000
set_option maxHeartbeats 8000000
namespace Go.Vs.YtcjeehebikeghaaGreatDoor
open Go.Proofs
def SL:List Int:=[0,31,59,90,120,151,181,212,243,273,304,334,365]
def G2:List (Nat×List IV):=(1,SL.map (.int .i64 ·))::G
theorem upR{k:Nat}{a:List IV}{r:Res}(h:Ea G T_ k a r):Ea G2 T_ k a r:=
 ⟨h.1,fun w S b c d e=>h.2 w S b c d (fun p f=>e p (List.mem_cons_of_mem _ f))⟩
theorem up{k:Nat}{args:List IV}{v:IV}(h:Fn G T_ k args v):Fn G2 T_ k args v:=upR h
theorem upM{k:Nat}{c:MC}(h:jL G T_ k c):jL G2 T_ k c:=
 ⟨h.1,fun w S a b e f g i j l m=>h.2 w S a b e f (fun p n=>g p (List.mem_cons_of_mem _ n)) i j l m⟩
theorem Ym{m:Nat}(a:1<=m)(b:m<=13):∃r,(SL.map (IV.int .i64 ·)).drop (m-1)=.int .i64 (SL.getD (m-1) 0)::r:=by
 have:m=1\/m=2\/m=3\/m=4\/m=5\/m=6\/m=7\/m=8\/m=9\/m=10\/m=11\/m=12\/m=13:=by omega
 rcases this with rfl|rfl|rfl|rfl|rfl|rfl|rfl|rfl|rfl|rfl|rfl|rfl|rfl<;>exact⟨_,rfl⟩
def x5:VCode:=Q_ 1 [.X 0,.K (cs []),.n 0] (.seq (R_ 12 13 [.W 2 1,.c1 120,.a 4] (C_ 14 14 [.m 4,.N 0] (R_ 16 16 [.m 4,.J 2 (cs []),.a 3] .ret) .skip)) (V_ 18 21 [.W 2 1,.c1 121,.a 17,.e 17 0,.e 17 1,.M 5 20,.a 6] (V_ 23 28 [.m 5,.c1 122,.a 22,.e 22 0,.e 22 1,.e 22 2,.e 22 3,.M 7 25,.M 8 26,.M 9 27,.a 10] (.seq (C_ 29 29 [.m 10,.N 0] (R_ 31 31 [.m 10,.J 2 (cs []),.a 3] .ret) .skip) (R_ 32 37 [.m 7,.g (.callM 123 [.const .nils,tm 32,ci 4]),.m 8,.g (.callM 123 [tm 33,tm 34,ci 2]),.m 9,.g (.callM 123 [tm 35,tm 36,ci 2]),.a 11] (.seq (C_ 38 39 [.F 0 1,.l,.U .neq 1] (R_ 41 43 [.m 11,.g (.buildSlice 1 1 (z_ [.u]) [(0,1,cu 84)]),.p 5 1 1,.a 11] (X_ 44 54 [.m 11,.m 6,.i .quo 3600,.g (.callM 123 [tm 44,tm 46,ci 2]),.m 6,.i .quo 60,.i .rem 60,.g (.callM 123 [tm 47,tm 50,ci 2]),.m 6,.i .rem 60,.g (.callM 123 [tm 51,tm 53,ci 2]),.a 11])) .skip) (.seq (C_ 55 56 [.F 0 1,.l,.U .eql 3] (X_ 58 60 [.m 11,.g (.buildSlice 1 1 (z_ [.u]) [(0,1,cu 90)]),.p 5 1 1,.a 11]) .skip) (R_ 61 62 [.m 11,.g (.convB (tm 61)),.a 2,.j 3 0] .ret))))))))
theorem Gv:FnOk T_ 62 x5 [.tmp 2,.tmp 3] 63:=fK_ Tryz.func62
def ael:VCode:=Q_ 1 [.X 0,.K (cs []),.n 0] (.seq (R_ 11 12 [.W 2 1,.c1 127,.a 4] (C_ 13 13 [.m 4,.N 0] (R_ 15 15 [.m 4,.J 2 (cs []),.a 3] .ret) .skip)) (G_ 17 [.F 1 1,.l,.i .quo 86400,.c1 128,.a 16,.e 16 0,.e 16 1,.e 16 2,.e 16 3,.M 5 21,.M 6 22,.M 7 23,.a 8] [8,8,16,24] (R_ 25 32 [.m 5,.g (.call 129 [tm 25,ci 4]),.m 6,.g (.call 129 [tm 27,ci 2]),.g (.bin .add (tm 26) (tm 28)),.m 7,.g (.call 129 [tm 30,ci 2]),.g (.bin .add (tm 29) (tm 31)),.a 9] (.seq (C_ 33 34 [.F 0 1,.l,.U .eql 1] (R_ 36 36 [.m 9,.a 2,.j 3 0] .ret) .skip) (R_ 37 39 [.F 1 1,.l,.i .rem 86400,.a 10] (R_ 40 54 [.m 9,.m 10,.i .quo 3600,.g (.call 129 [tm 42,ci 2]),.g (.bin .add (cs [84]) (tm 43)),.m 10,.i .quo 60,.i .rem 60,.g (.call 129 [tm 47,ci 2]),.g (.bin .add (tm 44) (tm 48)),.m 10,.i .rem 60,.g (.call 129 [tm 51,ci 2]),.g (.bin .add (tm 49) (tm 52)),.g (.bin .add (tm 40) (tm 53)),.a 9] (.seq (C_ 55 56 [.F 0 1,.l,.U .eql 3] (X_ 58 59 [.m 9,.g (.bin .add (tm 58) (cs [90])),.a 9]) .skip) (R_ 60 60 [.m 9,.a 2,.j 3 0] .ret))))))))
theorem afw:FnOk T_ 77 ael [.tmp 2,.tmp 3] 61:=fK_ Tryz.func77
def FN:VCode:=Q_ 4 [.Z z_4,.n 0] (.seq (R_ 7 9 [.m 0,.m 1,.c2 132,.a 6] (C_ 10 10 [.m 6,.N 0] (R_ 12 13 [.D z_4,.m 6,.T 2 4 12,.a 5] .ret) .skip)) (.seq (C_ 14 14 [.m 0,.U .eql 1] (X_ 16 19 [.m 1,.m 1,.i .rem 86400,.b .sub,.a 1]) .skip) (R_ 20 22 [.m 0,.m 1,.g (.build z_4 [(0,1,tm 20),(1,1,tm 21)]),.s 2 4,.j 5 0] .ret)))
theorem Oa:FnOk T_ 85 FN [.cell 4 (some 2),.tmp 5] 23:=fK_ Tryz.func85
def x7:VCode:=Q_ 1 [.X 0,.n 0] (V_ 6 12 [.F 0 1,.l,.F 1 1,.l,.c2 85,.a 5,.e 5 0,.e 5 1,.Y 3 z_4,.T 2 3 11,.a 4] (.seq (C_ 13 13 [.m 4,.N 0] (R_ 15 15 [.m 4,.a 2] .ret) .skip) (.seq (C_ 16 17 [.W 2 3,.W 2 1,.g (.eqA true [.i,.i] (tm 16) (tm 17))] (Q_ 2 [.n 2] .ret) .skip) (Q_ 2 [.n 0] .ret))))
theorem Gw:FnOk T_ 120 x7 [.tmp 2] 19:=fK_ Tryz.func120
def x9:VCode:=Q_ 1 [.X 0,.n 0,.n 0] (.seq (C_ 4 5 [.W 2 1,.c1 120,.N 0] (Q_ 2 [.n 0,.n 0] .ret) .skip) (.seq (.region (D_ [.F 1 1,.l,.i .quo 86400,.F 1 1,.l,.i .rem 86400,.M 2 9,.a 3] 7) .calm [7,12]) .ret))
theorem Gx:FnOk T_ 121 x9 [.tmp 2,.tmp 3] 13:=fK_ Tryz.func121
def CG:VCode:=Q_ 2 [.n 0,.n 0,.n 0,.n 0] (.seq (C_ 9 10 [.m 0,.c1 178,.u] (Q_ 2 [.n 0,.n 0,.n 0,.n 8] .ret) .skip) (V_ 13 16 [.m 0,.c1 179,.a 12,.e 12 0,.e 12 1,.M 6 15,.a 7] (R_ 17 19 [.m 7,.i .quo 32,.P 1,.a 8] (.seq (C_ 20 24 [.m 7,.m 6,.m 8,.P 1,.c2 180,.b .geq] (X_ 26 27 [.m 8,.P 1,.a 8]) .skip) (R_ 28 35 [.m 6,.m 8,.m 7,.m 6,.m 8,.c2 180,.b .sub,.P 1,.M 2 28,.M 3 29,.a 4,.j 5 0] .ret)))))
theorem KH:FnOk T_ 122 CG [.tmp 2,.tmp 3,.tmp 4,.tmp 5] 36:=fK_ Tryz.func122
def uM:VCode:=.cut (Q_ 6 [.K (.const .nils)] (R_ 9 10 [.m 0,.v,.a 7] (R_ 11 14 [.m 0,.m 2,.g (.subS (cs [48,48,48,48]) none (some (tm 12))),.g (.appendS 5 1 (tm 11) (tm 13)),.a 0] (.seq (R_ 15 18 [.m 7,.m 2,.b .add,.i .sub 1,.a 8] (.block 0 (.loop (.seq (C_ 19 20 [.m 8,.m 7,.b .geq] .skip (.exit 0)) (.seq (.block 1 (R_ 24 30 [.m 0,.m 8,.m 1,.i .rem 10,.g (.convI .u8 (tm 27)),.g (.bin .add (cu 48) (tm 28)),.g (.indexAddr 1 (tm 24) (tm 25)),.T 1 30 29] (X_ 31 32 [.m 1,.i .quo 10,.a 1]))) (X_ 22 23 [.m 8,.i .sub 1,.a 8])))))) (R_ 33 33 [.m 0,.a 6] .ret)))))
theorem zD:FnOk T_ 123 uM [.tmp 6] 34:=fK_ Tryz.func123
def zE:VCode:=Q_ 1 [.X 0,.n 0] (.seq (C_ 3 9 [.F 0 1,.l,.U .lss 1,.w,.F 0 1,.l,.U .gtr 3,.O] (Q_ 2 [.n 11] .ret) .skip) (.seq (C_ 11 17 [.F 1 1,.l,.i .lss 0,.w,.F 1 1,.l,.i .gtr 315537897599,.O] (Q_ 2 [.n 8] .ret) .skip) (.seq (C_ 19 26 [.F 0 1,.l,.U .eql 1,.z,.F 1 1,.l,.i .rem 86400,.N 0,.A] (Q_ 2 [.n 2] .ret) .skip) (Q_ 2 [.n 0] .ret))))
theorem IS:FnOk T_ 127 zE [.tmp 2] 28:=fK_ Tryz.func127
def aeI:VCode:=Q_ 2 [.n 0,.n 0,.n 0,.n 0] (.seq (C_ 9 13 [.m 0,.i .lss 0,.w,.m 0,.i .gtr 3652058,.O] (Q_ 2 [.n 0,.n 0,.n 0,.n 8] .ret) .skip) (R_ 15 17 [.m 0,.i .quo 366,.P 1,.a 6] (.seq (.block 0 (.loop (.seq (C_ 18 21 [.m 6,.P 1,.c1 184,.m 0,.b .leq] .skip (.exit 0)) (.block 1 (X_ 23 24 [.m 6,.P 1,.a 6]))))) (R_ 25 29 [.m 0,.m 6,.c1 184,.b .sub,.P 1,.j 7 1,.a 8] (.seq (.block 2 (.loop (.seq (C_ 30 33 [.m 8,.m 6,.m 7,.c2 185,.b .gtr] .skip (.exit 2)) (.block 3 (R_ 35 39 [.m 8,.m 6,.m 7,.c2 185,.b .sub,.a 8] (X_ 40 41 [.m 7,.P 1,.a 7])))))) (R_ 42 44 [.m 6,.m 7,.m 8,.M 2 42,.M 3 43,.a 4,.j 5 0] .ret))))))
theorem afV:FnOk T_ 128 aeI [.tmp 2,.tmp 3,.tmp 4,.tmp 5] 45:=fK_ Tryz.func128
def aeK:VCode:=Q_ 4 [.K (cs [])] (Q_ 5 [.K (cs [])] (.seq (Q_ 6 [.n 0] (.block 0 (.loop (.seq (C_ 7 8 [.m 6,.m 1,.b .lss] .skip (.exit 0)) (.seq (.block 1 (R_ 12 19 [.m 0,.i .rem 10,.g (.convI .u8 (tm 13)),.g (.bin .add (cu 48) (tm 14)),.g (.buildSlice 1 1 (z_ [.u]) [(0,1,tm 15)]),.g (.convB (tm 16)),.m 5,.b .add,.a 5] (X_ 20 21 [.m 0,.i .quo 10,.a 0]))) (X_ 10 11 [.m 6,.P 1,.a 6])))))) (R_ 22 22 [.m 5,.a 4] .ret)))
theorem afW:FnOk T_ 129 aeK [.tmp 4] 23:=fK_ Tryz.func129
def xb:VCode:=Q_ 4 [.n 0] (.seq (C_ 5 9 [.m 0,.U .eql 0,.w,.m 0,.U .gtr 3,.O] (Q_ 4 [.n 11] .ret) .skip) (.seq (C_ 11 15 [.m 1,.i .lss 0,.w,.m 1,.i .gtr 315537897599,.O] (Q_ 4 [.n 8] .ret) .skip) (Q_ 4 [.n 0] .ret)))
theorem Gy:FnOk T_ 132 xb [.tmp 4] 17:=fK_ Tryz.func132
def zG:VCode:=Q_ 2 [.Z z_4,.n 0] (Q_ 4 [.K (cu 3)] (.seq (C_ 10 11 [.m 0,.h,.E 8] (Y_ 4 [.K (cu 1)]) (C_ 13 14 [.m 0,.h,.E 15] (Y_ 4 [.K (cu 2)]) .skip)) (.seq (C_ 16 53 [.m 0,.h,.N 8,.z,.m 0,.h,.N 15,.A,.z,.m 0,.h,.N 16,.w,.m 0,.g (.indexS (tm 29) (ci 15)),.U .neq 90,.O,.A,.w,.m 0,.g (.subS (tm 35) none (some (ci 8))),.c1 227,.u,.O,.w,.m 4,.U .neq 1,.z,.m 0,.g (.indexS (tm 44) (ci 8)),.U .neq 84,.w,.m 0,.g (.subS (tm 48) (some (ci 9)) (some (ci 15))),.c1 227,.u,.O,.A,.O] (R_ 55 55 [.D z_4,.s 2 2,.j 3 4] .ret) .skip) (.seq (.region (D_ [.m 0,.g (.subS (tm 57) none (some (ci 4))),.c1 229,.m 0,.g (.subS (tm 60) (some (ci 4)) (some (ci 6))),.c1 229,.m 0,.g (.subS (tm 63) (some (ci 6)) (some (ci 8))),.c1 229,.g (.call 228 [tm 59,tm 62,tm 65]),.a 56,.e 56 0,.e 56 1,.M 5 67,.a 6] 57) (.drawn [(2,3),(2,4),(2,6),(5,6),(2,7),(5,7)] (wo [(2,[(0,1),(3,4),(6,7)]),(5,[(0,4),(6,7)]),(8,[(0,7)]),(9,[(0,8)])])) [56,68]) (.seq (C_ 69 69 [.m 6,.N 0] (R_ 71 71 [.D z_4,.s 2 2,.j 3 8] .ret) .skip) (.seq (C_ 72 72 [.m 4,.U .eql 1] (R_ 74 77 [.m 4,.m 5,.i .mul 86400,.g (.build z_4 [(0,1,tm 74),(1,1,tm 76)]),.s 2 2,.j 3 0] .ret) .skip) (.seq (.region (D_ [.m 0,.g (.subS (tm 78) (some (ci 9)) (some (ci 11))),.c1 229,.m 0,.g (.subS (tm 81) (some (ci 11)) (some (ci 13))),.c1 229,.m 0,.g (.subS (tm 84) (some (ci 13)) (some (ci 15))),.c1 229,.M 7 80,.M 8 83,.a 9] 78) (.drawn [(2,3),(2,4),(2,6),(5,6),(2,7),(5,7)] (wo [(2,[(0,1),(3,4),(6,7)]),(5,[(0,4),(6,7)]),(8,[(0,7)])])) [78,86]) (.seq (C_ 87 95 [.m 7,.i .gtr 23,.w,.m 8,.i .gtr 59,.O,.w,.m 9,.i .gtr 59,.O] (R_ 97 97 [.D z_4,.s 2 2,.j 3 8] .ret) .skip) (R_ 98 109 [.m 4,.m 5,.i .mul 86400,.m 7,.i .mul 3600,.b .add,.m 8,.i .mul 60,.b .add,.m 9,.b .add,.g (.build z_4 [(0,1,tm 98),(1,1,tm 108)]),.s 2 2,.j 3 0] .ret)))))))))
theorem IT:FnOk T_ 160 zG [.cell 2 (some 2),.tmp 3] 110:=fK_ Tryz.func160
def zI:VCode:=Q_ 2 [.K (cb false)] (R_ 3 8 [.m 0,.i .geq 0,.z,.m 0,.i .leq 3652058,.A,.a 2] .ret)
theorem IU:FnOk T_ 178 zI [.tmp 2] 9:=fK_ Tryz.func178
def zK:VCode:=Q_ 2 [.n 0,.n 0] (R_ 8 11 [.m 0,.i .quo 146097,.i .mul 400,.g (.bin .add (ci 1) (tm 10)),.a 4] (R_ 12 13 [.m 0,.i .rem 146097,.a 0] (R_ 14 16 [.m 0,.i .quo 36524,.g (.minI (tm 15) (ci 3)),.a 5] (R_ 17 20 [.m 0,.m 5,.i .mul 36524,.b .sub,.a 0] (R_ 21 22 [.m 0,.i .quo 1461,.a 6] (R_ 23 24 [.m 0,.i .rem 1461,.a 0] (R_ 25 27 [.m 0,.i .quo 365,.g (.minI (tm 26) (ci 3)),.a 7] (R_ 28 40 [.m 4,.m 5,.g (.bin .mul (ci 100) (tm 29)),.g (.bin .add (tm 28) (tm 30)),.m 6,.g (.bin .mul (ci 4) (tm 32)),.g (.bin .add (tm 31) (tm 33)),.m 7,.b .add,.m 0,.m 7,.i .mul 365,.b .sub,.M 2 36,.a 3] .ret))))))))
theorem IW:FnOk T_ 179 zK [.tmp 2,.tmp 3] 41:=fK_ Tryz.func179
def zM:VCode:=Q_ 4 [.n 0] (R_ 6 9 [.m 1,.i .sub 1,.g (.indexArr 13 1 (.glob 1) (tm 7)),.l,.a 5] (.seq (C_ 10 14 [.m 1,.i .gtr 2,.z,.m 0,.c1 241,.A] (X_ 16 17 [.m 5,.P 1,.a 5]) .skip) (R_ 18 18 [.m 5,.a 4] .ret)))
theorem IX:FnOk T_ 180 zM [.tmp 4] 19:=fK_ Tryz.func180
def zO:VCode:=Q_ 2 [.n 0] (R_ 4 5 [.m 0,.i .sub 1,.a 3] (R_ 6 16 [.m 3,.i .mul 365,.m 3,.i .quo 4,.b .add,.m 3,.i .quo 100,.b .sub,.m 3,.i .quo 400,.b .add,.a 2] .ret))
theorem IY:FnOk T_ 184 zO [.tmp 2] 17:=fK_ Tryz.func184
def FP:VCode:=Q_ 4 [.n 0] (.seq (C_ 5 14 [.m 0,.c1 246,.E 0,.w,.m 1,.i .lss 1,.O,.w,.m 1,.i .gtr 12,.O] (Q_ 4 [.n 0] .ret) .skip) (.seq (C_ 16 16 [.m 1,.E 2] (R_ 18 20 [.m 0,.c1 246,.i .sub 337,.a 4] .ret) .skip) (.seq (C_ 21 33 [.m 1,.E 4,.w,.m 1,.E 6,.O,.w,.m 1,.E 9,.O,.w,.m 1,.E 11,.O] (Q_ 4 [.n 30] .ret) .skip) (Q_ 4 [.n 31] .ret))))
theorem Oc:FnOk T_ 185 FP [.tmp 4] 35:=fK_ Tryz.func185
def xd:VCode:=Q_ 2 [.Z z_4,.n 0] (V_ 13 18 [.m 0,.c1 275,.a 12,.e 12 0,.e 12 1,.e 12 2,.e 12 3,.M 4 15,.M 5 16,.M 6 17,.a 7] (.seq (C_ 19 19 [.m 7,.u] (R_ 21 21 [.D z_4,.s 2 2,.j 3 4] .ret) .skip) (V_ 23 27 [.m 5,.g (.buildSlice 1 3 (z_ [.i]) [(0,1,ci 4),(1,1,ci 2),(2,1,ci 2)]),.c2 276,.a 22,.e 22 0,.e 22 1,.M 8 26,.a 7] (.seq (C_ 28 28 [.m 7,.u] (R_ 30 30 [.D z_4,.s 2 2,.j 3 4] .ret) .skip) (V_ 32 36 [.m 6,.g (.buildSlice 1 3 (z_ [.i]) [(0,1,ci 2),(1,1,ci 2),(2,1,ci 2)]),.c2 276,.a 31,.e 31 0,.e 31 1,.M 9 35,.a 7] (.seq (C_ 37 37 [.m 7,.u] (R_ 39 39 [.D z_4,.s 2 2,.j 3 4] .ret) .skip) (.seq (.region (D_ [.m 8,.g (.indexAddr 1 (tm 41) (ci 0)),.l,.m 8,.g (.indexAddr 1 (tm 44) (ci 1)),.l,.m 8,.g (.indexAddr 1 (tm 47) (ci 2)),.l,.g (.call 260 [tm 43,tm 46,tm 49]),.a 40,.e 40 0,.e 40 1,.M 10 51,.a 11] 41) (.drawn [] (wo [(9,[(0,8)])])) [40,52]) (.seq (C_ 53 71 [.m 11,.N 0,.w,.m 9,.g (.indexAddr 1 (tm 56) (ci 0)),.l,.i .gtr 23,.O,.w,.m 9,.g (.indexAddr 1 (tm 62) (ci 1)),.l,.i .gtr 59,.O,.w,.m 9,.g (.indexAddr 1 (tm 68) (ci 2)),.l,.i .gtr 59,.O] (R_ 73 73 [.D z_4,.s 2 2,.j 3 8] .ret) .skip) (.seq (.region (D_ [.m 4,.m 10,.i .mul 86400,.m 9,.g (.indexAddr 1 (tm 77) (ci 0)),.l,.i .mul 60,.m 9,.g (.indexAddr 1 (tm 81) (ci 1)),.l,.g (.bin .add (tm 80) (tm 83)),.i .mul 60,.g (.bin .add (tm 76) (tm 85)),.m 9,.g (.indexAddr 1 (tm 87) (ci 2)),.l,.g (.bin .add (tm 86) (tm 89)),.g (.build z_4 [(0,1,tm 74),(1,1,tm 90)]),.s 2 2,.j 3 0] 74) .calm [74,91]) .ret)))))))))
theorem Gz:FnOk T_ 211 xd [.cell 2 (some 2),.tmp 3] 92:=fK_ Tryz.func211
def xf:VCode:=Q_ 2 [.K (cb false)] (.seq (Q_ 3 [.n 0] (.block 0 (.loop (.seq (C_ 4 6 [.m 3,.m 0,.h,.b .lss] .skip (.exit 0)) (.seq (.block 1 (C_ 10 18 [.m 0,.m 3,.y,.U .lss 48,.w,.m 0,.m 3,.y,.U .gtr 57,.O] (Q_ 2 [.K (cb false)] .ret) .skip)) (X_ 8 9 [.m 3,.P 1,.a 3])))))) (Q_ 2 [.K (cb true)] .ret))
theorem GA:FnOk T_ 227 xf [.tmp 2] 20:=fK_ Tryz.func227
def FR:VCode:=Q_ 6 [.n 0,.n 0] (.seq (C_ 10 17 [.m 2,.i .lss 1,.w,.m 2,.m 0,.m 1,.c2 185,.b .gtr,.O] (Q_ 6 [.n 0,.n 8] .ret) .skip) (R_ 19 23 [.m 0,.c1 184,.m 2,.b .add,.i .sub 1,.a 8] (.seq (Q_ 9 [.n 1] (.block 0 (.loop (.seq (C_ 24 25 [.m 9,.m 1,.b .lss] .skip (.exit 0)) (.seq (.block 1 (X_ 29 33 [.m 8,.m 0,.m 9,.c2 185,.b .add,.a 8])) (X_ 27 28 [.m 9,.P 1,.a 9])))))) (R_ 34 34 [.m 8,.a 6,.j 7 0] .ret))))
theorem Od:FnOk T_ 228 FR [.tmp 6,.tmp 7] 35:=fK_ Tryz.func228
def xh:VCode:=Q_ 2 [.n 0] (Q_ 3 [.n 0] (.seq (Q_ 4 [.n 0] (.block 0 (.loop (.seq (C_ 5 7 [.m 4,.m 0,.h,.b .lss] .skip (.exit 0)) (.seq (.block 1 (X_ 11 18 [.m 3,.i .mul 10,.m 0,.m 4,.y,.U .sub 48,.g (.convI .i64 (tm 16)),.g (.bin .add (tm 12) (tm 17)),.a 3])) (X_ 9 10 [.m 4,.P 1,.a 4])))))) (R_ 19 19 [.m 3,.a 2] .ret)))
theorem GB:FnOk T_ 229 xh [.tmp 2] 20:=fK_ Tryz.func229
def CI:VCode:=Q_ 2 [.K (cb false)] (R_ 3 19 [.m 0,.c1 299,.z,.m 0,.i .rem 4,.E 0,.A,.z,.m 0,.i .rem 100,.N 0,.w,.m 0,.i .rem 400,.E 0,.O,.A,.a 2] .ret)
theorem KI:FnOk T_ 241 CI [.tmp 2] 20:=fK_ Tryz.func241
def CK:VCode:=Q_ 2 [.n 0] (.seq (C_ 3 7 [.m 0,.i .lss 1,.w,.m 0,.i .gtr 9999,.O] (Q_ 2 [.n 0] .ret) .skip) (.seq (C_ 9 9 [.m 0,.c1 305] (Q_ 2 [.n 366] .ret) .skip) (Q_ 2 [.n 365] .ret)))
theorem KJ:FnOk T_ 246 CK [.tmp 2] 11:=fK_ Tryz.func246
def FT:VCode:=Q_ 4 [.n 0] (.seq (C_ 5 14 [.m 0,.c1 299,.u,.w,.m 1,.i .lss 1,.O,.w,.m 1,.i .gtr 12,.O] (Q_ 4 [.n 0] .ret) .skip) (R_ 16 23 [.m 0,.m 1,.P 1,.c2 180,.m 0,.m 1,.c2 180,.b .sub,.a 4] .ret))
theorem Oe:FnOk T_ 259 FT [.tmp 4] 24:=fK_ Tryz.func259
def FV:VCode:=Q_ 6 [.n 0,.n 0] (.seq (C_ 9 16 [.m 2,.i .lss 1,.w,.m 2,.m 0,.m 1,.c2 259,.b .gtr,.O] (Q_ 6 [.n 0,.n 8] .ret) .skip) (R_ 18 19 [.m 0,.i .sub 1,.a 8] (R_ 20 37 [.m 8,.i .mul 365,.m 8,.i .quo 4,.b .add,.m 8,.i .quo 100,.b .sub,.m 8,.i .quo 400,.b .add,.m 0,.m 1,.c2 180,.b .add,.m 2,.b .add,.i .sub 1,.a 6,.j 7 0] .ret)))
theorem Of:FnOk T_ 260 FV [.tmp 6,.tmp 7] 38:=fK_ Tryz.func260
def zQ:VCode:=Q_ 2 [.K (cu 0),.K (cs []),.K (cs []),.K (cb false)] (.seq (.block 0 (R_ 7 9 [.m 0,.h,.E 8,.a 6] (c_ 6 (G_ 2 [.M 10 0,.K (cu 1),.m 10,.K (cs [48,48,48,48,48,48]),.K (cb true)] [10,10] .ret) (R_ 12 19 [.m 0,.h,.E 15,.z,.m 0,.g (.indexS (tm 16) (ci 8)),.U .eql 84,.A,.a 11] (c_ 11 (.seq (.region (D_ [.m 0,.g (.subS (tm 20) none (some (ci 8))),.m 0,.g (.subS (tm 22) (some (ci 9)) none),.J 2 (cu 2),.M 3 21,.a 4,.J 5 (cb true)] 20) .calm [20,23]) .ret) (R_ 25 37 [.m 0,.h,.E 16,.z,.m 0,.g (.indexS (tm 29) (ci 8)),.U .eql 84,.A,.z,.m 0,.g (.indexS (tm 34) (ci 15)),.U .eql 90,.A,.a 24] (c_ 24 (.seq (.region (D_ [.m 0,.g (.subS (tm 38) none (some (ci 8))),.m 0,.g (.subS (tm 40) (some (ci 9)) (some (ci 15))),.J 2 (cu 3),.M 3 39,.a 4,.J 5 (cb true)] 38) .calm [38,41]) .ret) .skip))))))) (Q_ 2 [.K (cu 0),.K (cs []),.K (cs []),.K (cb false)] .ret))
theorem IZ:FnOk T_ 275 zQ [.tmp 2,.tmp 3,.tmp 4,.tmp 5] 42:=fK_ Tryz.func275
def vI:VCode:=Q_ 4 [.K (.const .nils),.K (cb false)] (Q_ 6 [.K (.const .nils)] (.seq (Q_ 10 [.m 1,.v,.n 0] (.block 0 (.loop (Q_ 13 [.g (.bin .lss (tm 12) (tm 11))] (.seq (c_ 13 .skip (.exit 0)) (.seq (.block 1 (R_ 14 15 [.g (.indexAddr 1 (tm 10) (tm 12)),.l,.a 8] (Q_ 9 [.n 0] (.seq (.block 2 (.loop (.seq (C_ 16 16 [.m 8,.i .gtr 0] .skip (.exit 2)) (.seq (.block 3 (.seq (C_ 20 30 [.m 0,.t [],.w,.m 0,.g (.indexS (tm 23) (ci 0)),.U .lss 48,.O,.w,.m 0,.g (.indexS (tm 28) (ci 0)),.U .gtr 57,.O] (Q_ 4 [.K (.const .nils),.K (cb false)] .ret) .skip) (.region (D_ [.m 9,.i .mul 10,.m 0,.g (.indexS (tm 34) (ci 0)),.U .sub 48,.g (.convI .i64 (tm 36)),.g (.bin .add (tm 33) (tm 37)),.m 0,.g (.subS (tm 39) (some (ci 1)) none),.M 9 38,.a 0] 32) .calm [32,40]))) (X_ 18 19 [.m 8,.i .sub 1,.a 8]))))) (X_ 41 44 [.m 6,.m 9,.g (.buildSlice 1 1 (z_ [.i]) [(0,1,tm 42)]),.g (.append 3 1 8 (tm 41) (tm 43)),.a 6]))))) (X_ 45 45 [.g (.bin .add (tm 12) (ci 1)),.a 12]))))))) (R_ 46 48 [.m 6,.m 0,.t [],.M 4 46,.a 5] .ret)))
theorem EG:FnOk T_ 276 vI [.tmp 4,.tmp 5] 49:=fK_ Tryz.func276
def xj:VCode:=Q_ 2 [.K (cb false)] (R_ 3 8 [.m 0,.i .geq 1,.z,.m 0,.i .leq 9999,.A,.a 2] .ret)
theorem GC:FnOk T_ 299 xj [.tmp 2] 9:=fK_ Tryz.func299
def CM:VCode:=Q_ 2 [.K (cb false)] (R_ 3 23 [.m 0,.i .geq 1,.z,.m 0,.i .leq 9999,.A,.z,.m 0,.i .rem 4,.E 0,.z,.m 0,.i .rem 100,.N 0,.A,.w,.m 0,.i .rem 400,.E 0,.O,.A,.a 2] .ret)
theorem KK:FnOk T_ 305 CM [.tmp 2] 24:=fK_ Tryz.func305
end Go.Vs.YtcjeehebikeghaaGreatDoor
namespace Go.Vs.YtcjeehebikeghaaGreatDoor.Rc
open Go.Proofs Go.Vs.Cv
def yr(y:Nat):Bool:=decide (1<=y/\y<=9999)
theorem J0{y:Nat}(h:1<=y/\y<=9999):yr y=true:=by simp[yr];omega
theorem QH{y:Nat}(h:¬(1<=y/\y<=9999)):yr y=false:=by simp[yr];omega
theorem MG(y:Nat)(h:y<1000000):Fn G2 T_ 299 [.int .i64 y] (.bool (yr y)):=by
 refine ae hm GC (by simp) ?_;simp[xj];by_cases a:1<=y
 ·by_cases b:y<=9999
  ·rw[J0 ⟨a,b⟩];simp(disch:=omega)[wl];omega
  ·rw[QH (by omega)];simp(disch:=omega)[wl];omega
 ·rw[QH (by omega)];simp(disch:=omega)[wl]
theorem tm4(y k:Nat)(a:0<k):(y:Int).tmod (k:Int)=((y%k:Nat):Int):=by
 rw[Int.tmod_eq_emod_of_nonneg (by omega)];exact(Int.natCast_emod y k).symm
theorem Yn(y k:Nat)(c:0<k):(y:Int).tdiv (k:Int)=((y/k:Nat):Int):=by
 rw[Int.tdiv_eq_ediv_of_nonneg (by omega)];exact(Int.natCast_ediv y k).symm
theorem aaW(y:Nat)(h:y<1000000):Fn G2 T_ 241 [.int .i64 y] (.bool (yr y&&sl y)):=by
 refine ae hm KI (by simp) ?_;have n:=MG y h;have e1:(y:Int).tmod 4=((y%4:Nat):Int):=tm4 y 4 (by omega);have e2:(y:Int).tmod 100=((y%100:Nat):Int):=tm4 y 100 (by omega);have d:(y:Int).tmod 400=((y%400:Nat):Int):=tm4 y 400 (by omega);obtain⟨a,k⟩:∃a,y%4=a:=⟨_,rfl⟩;obtain⟨b,l⟩:∃b,y%100=b:=⟨_,rfl⟩;obtain⟨c,m⟩:∃c,y%400=c:=⟨_,rfl⟩;have i:c=0->a=0:=by omega
 have o:sl y=((decide (a=0)&&decide (b≠0))||decide (c=0)):=by unfold sl;rw[k,l,m]
 rw[k]at e1;rw[l]at e2;rw[m]at d;rw[o];simp[CI];refine aa n ?_;cases p:yr y with
 |false=>simp(disch:=omega)[wl]
 |true=>
  by_cases f:a=0
  ·by_cases j:b=0
   ·by_cases g:c=0
    ·simp(disch:=omega)[wl,e1,e2,d,f,j,g]
    ·simp(disch:=omega)[wl,e1,e2,d,f,j,g]
   ·simp(disch:=omega)[wl,e1,e2,d,f,j]
  ·have g:¬c=0:=fun e=>f (i e)
   simp(disch:=omega)[wl,e1,e2,d,f,g]
theorem Yo(y:Nat)(h:y<1000000):Fn G2 T_ 305 [.int .i64 y] (.bool (yr y&&sl y)):=by
 refine ae hm KK (by simp) ?_;have e1:(y:Int).tmod 4=((y%4:Nat):Int):=tm4 y 4 (by omega);have e2:(y:Int).tmod 100=((y%100:Nat):Int):=tm4 y 100 (by omega);have d:(y:Int).tmod 400=((y%400:Nat):Int):=tm4 y 400 (by omega);obtain⟨a,i⟩:∃a,y%4=a:=⟨_,rfl⟩;obtain⟨b,j⟩:∃b,y%100=b:=⟨_,rfl⟩;obtain⟨c,k⟩:∃c,y%400=c:=⟨_,rfl⟩;have l:sl y=((decide (a=0)&&decide (b≠0))||decide (c=0)):=by unfold sl;rw[i,j,k]
 rw[i]at e1;rw[j]at e2;rw[k]at d;rw[l];simp[CM];by_cases m:1<=y
 ·by_cases n:y<=9999
  ·rw[J0 ⟨m,n⟩];by_cases e:a=0
   ·by_cases g:b=0
    ·by_cases f:c=0
     ·simp(disch:=omega)[wl,e1,e2,d,e,g,f]
     ·simp(disch:=omega)[wl,e1,e2,d,e,g,f]
    ·simp(disch:=omega)[wl,e1,e2,d,e,g]
   ·by_cases f:c=0
    ·simp(disch:=omega)[wl,e1,e2,d,e,f]
    ·simp(disch:=omega)[wl,e1,e2,d,e,f]
  ·rw[QH (by omega)];simp(disch:=omega)[wl]
 ·rw[QH (by omega)];simp(disch:=omega)[wl]
theorem xl(y m:Nat)(i:1<=y/\y<=9999)(j:1<=m)(k:m<=13):Fn G2 T_ 180 [.int .i64 y,.int .i64 m] (.int .i64 (eI y m:Nat)):=by
 refine ae hm IX (by simp) ?_;have a:=aaW y (by omega);rw[J0 i,Bool.true_and]at a;obtain⟨r,b⟩:=Ym j k
 have l:SL.getD (m-1) 0=((before m:Nat):Int):=by
  have:m=1\/m=2\/m=3\/m=4\/m=5\/m=6\/m=7\/m=8\/m=9\/m=10\/m=11\/m=12\/m=13:=by omega
  rcases this with rfl|rfl|rfl|rfl|rfl|rfl|rfl|rfl|rfl|rfl|rfl|rfl|rfl<;>rfl
 have f:before m<=365:=by
  unfold before;split<;>omega
 rw[l]at b;have e0:((m:Int)-1).toNat=m-1:=by omega
 have e1:(0:Int)<=(m:Int)-1:=by omega
 obtain⟨B,d⟩:∃B,before m=B:=⟨_,rfl⟩;rw[d]at b f;simp[zM,G2];by_cases g:2<m
 ·cases e:sl y with
  |true=>
   have c:eI y m=B+1:=by unfold eI;rw[d,if_pos ⟨g,e⟩]
   rw[e]at a;rw[c];simp(disch:=omega)[wl,e0,e1,b];refine⟨by omega,?_⟩;refine aa a ?_;simp(disch:=omega)[wl]
  |false=>
   have c:eI y m=B:=by unfold eI;rw[d,if_neg (by simp[e])];rfl
   rw[e]at a;rw[c];simp(disch:=omega)[wl,e0,e1,b];refine⟨by omega,?_⟩;refine aa a ?_;simp(disch:=omega)[wl]
 ·have c:eI y m=B:=by unfold eI;rw[d,if_neg (fun h=>g h.1)];rfl
  rw[c];simp(disch:=omega)[wl,e0,e1,b];omega
def k9(y m:Nat):Nat:=if 1<=y/\y<=9999/\1<=m/\m<=12 then oy y m else 0
theorem yk(y m:Nat):eI y m<=366:=by
 have:before m<=365:=by unfold before;split<;>omega
 unfold eI;split<;>omega
theorem Og(y m:Nat):oy y m<=31:=by
 unfold oy ox
 repeat' split
 all_goals omega
theorem U0(y m:Nat):k9 y m<=31:=by
 unfold k9;split
 ·exact Og y m
 ·omega
theorem ac7(y m:Nat)(k:y<1000000)(l:m<1000000):Fn G2 T_ 259 [.int .i64 y,.int .i64 m] (.int .i64 (k9 y m:Nat)):=by
 refine ae hm Oe (by simp) ?_;have n:=MG y k;simp[FT];refine aa n ?_;by_cases d:1<=y/\y<=9999
 ·rw[J0 d];by_cases f:1<=m
  ·by_cases h:m<=12
   ·have c:k9 y m=oy y m:=by unfold k9;rw[if_pos ⟨d.1,d.2,f,h⟩]
    have i:=pI y f h;have o:=yk y m;have p:=yk y (m+1);have g:=xl y (m+1) d (by omega) (by omega);have j:=xl y m d f (by omega);rw[show((m+1:Nat):Int)=(m:Int)+1 by omega]at g;obtain⟨a,q⟩:∃a,eI y (m+1)=a:=⟨_,rfl⟩;obtain⟨b,s⟩:∃b,eI y m=b:=⟨_,rfl⟩;rw[q]at g i p;rw[s]at j i o;have e:((a:Int)-(b:Int))=((oy y m:Nat):Int):=by omega
    rw[c];simp(disch:=omega)[wl];refine aa g ?_;simp(disch:=omega)[wl];refine aa j ?_;simp(disch:=omega)[wl,e]
   ·have c:k9 y m=0:=by unfold k9;rw[if_neg (by omega)]
    rw[c];simp(disch:=omega)[wl]
  ·have c:k9 y m=0:=by unfold k9;rw[if_neg (by omega)]
   rw[c];simp(disch:=omega)[wl]
 ·have c:k9 y m=0:=by unfold k9;rw[if_neg (by omega)]
  rw[QH d,c];simp(disch:=omega)[wl]
def QI(y m d:Nat):Nat×Int:=if d<1\/k9 y m<d then (0,8)else (nY y m d,0)
def oK(p:Nat×Int):IV:=.tuple [.int .i64 (p.1:Nat),.int .i64 p.2]
theorem ac8(y m d:Nat)(z:y<1000000)(i:m<1000000)(C:d<1000000):Fn G2 T_ 260 [.int .i64 y,.int .i64 m,.int .i64 d] (oK (QI y m d)):=by
 refine ae hm Of (by simp) ?_;have k:=ac7 y m z i;obtain⟨R,e⟩:∃R,QI y m d=R:=⟨_,rfl⟩;rw[e];unfold QI at e;simp[FV];by_cases l:d<1
 ·rw[if_pos (.inl l)]at e;subst e;simp(disch:=omega)[wl,oK]
 ·by_cases g:k9 y m<d
  ·rw[if_pos (.inr g)]at e;subst e;simp(disch:=omega)[wl];refine aa k ?_;simp(disch:=omega)[wl,oK]
  ·rw[if_neg (fun h=>h.elim l g)]at e;subst e
   have j:1<=y/\y<=9999/\1<=m/\m<=12:=by
    by_cases h:1<=y/\y<=9999/\1<=m/\m<=12
    ·exact h
    ·unfold k9 at g;rw[if_neg h]at g;omega
   have n:=xl y m ⟨j.1,j.2.1⟩ j.2.2.1 (by omega);have A:=yk y m;have D:=U0 y m;obtain⟨p,E⟩:∃p,y=p+1:=⟨y-1,by omega⟩;have e0:(y:Int)-1=(p:Int):=by omega
   have o:(p:Int).tdiv 4=((p/4:Nat):Int):=Yn p 4 (by omega);have q:(p:Int).tdiv 100=((p/100:Nat):Int):=Yn p 100 (by omega);have s:(p:Int).tdiv 400=((p/400:Nat):Int):=Yn p 400 (by omega);obtain⟨U,f⟩:∃U,eI y m=U:=⟨_,rfl⟩
   have u:nY y m d=p*365+p/4-p/100+p/400+U+d-1:=by
    unfold nY Cv.ahead;rw[f,show y-1=p by omega]
   rw[f]at n A;obtain⟨a,v⟩:∃a,p/4=a:=⟨_,rfl⟩;obtain⟨b,w⟩:∃b,p/100=b:=⟨_,rfl⟩;obtain⟨c,x⟩:∃c,p/400=c:=⟨_,rfl⟩;rw[v]at o;rw[w]at q;rw[x]at s;rw[v,w,x]at u;have B:b<=a/\a<=p/\c<=p:=by omega
   rw[u];simp(disch:=omega)[wl];refine aa k ?_;simp(disch:=omega)[wl,e0,o,q,s];refine aa n ?_;simp(disch:=omega)[wl,oK];omega
theorem Yp(n:Nat)(h:n<=3652058):Fn G2 T_ 178 [.int .i64 n] (.bool true):=by
 refine ae hm IU (by simp) ?_;simp[zI];omega
theorem Yq(n:Nat)(h:n<=3652058):Fn G2 T_ 179 [.int .i64 n] (.tuple [.int .i64 ((kO n).1:Nat),.int .i64 ((kO n).2:Nat)]):=by
 refine ae hm IW (by simp) ?_;obtain⟨a,m⟩:∃a,n/146097=a:=⟨_,rfl⟩;obtain⟨e,o⟩:∃e,n%146097=e:=⟨_,rfl⟩;obtain⟨f,g⟩:∃f,e/36524=f:=⟨_,rfl⟩;obtain⟨c,u⟩:∃c,min f 3=c:=⟨_,rfl⟩;obtain⟨b,v⟩:∃b,e-c*36524=b:=⟨_,rfl⟩;obtain⟨q,p⟩:∃q,b/1461=q:=⟨_,rfl⟩;obtain⟨d,s⟩:∃d,b%1461=d:=⟨_,rfl⟩;obtain⟨i,j⟩:∃i,d/365=i:=⟨_,rfl⟩;obtain⟨k,w⟩:∃k,min i 3=k:=⟨_,rfl⟩
 have x:kO n=(1+a*400+100*c+4*q+k,d-k*365):=by
  unfold kO;simp only[m,o,g,u,v,p,s,j,w]
 have y:(n:Int).tdiv 146097=(a:Int):=by rw[<-m];exact Yn n 146097 (by omega)
 have z:(n:Int).tmod 146097=(e:Int):=by rw[<-o];exact tm4 n 146097 (by omega)
 have A:(e:Int).tdiv 36524=(f:Int):=by rw[<-g];exact Yn e 36524 (by omega)
 have B:min (f:Int) 3=(c:Int):=by omega
 have C:(e:Int)-(c:Int)*36524=(b:Int):=by omega
 have D:(b:Int).tdiv 1461=(q:Int):=by rw[<-p];exact Yn b 1461 (by omega)
 have E:(b:Int).tmod 1461=(d:Int):=by rw[<-s];exact tm4 b 1461 (by omega)
 have F:(d:Int).tdiv 365=(i:Int):=by rw[<-j];exact Yn d 365 (by omega)
 have H:min (i:Int) 3=(k:Int):=by omega
 have l:(d:Int)-(k:Int)*365=((d-k*365:Nat):Int):=by omega
 have I:a<=25/\c<=3/\q<=100/\k<=3:=by omega
 rw[x];simp only;simp[zK];simp(disch:=omega)[wl,y,z,A,B,C,D,E,F,H,l];omega
theorem aaX(n:Nat)(h:n<=3652058):Fn G2 T_ 122 [.int .i64 n] (.tuple [.int .i64 ((vG n).1:Nat),.int .i64 ((vG n).2.1:Nat),.int .i64 ((vG n).2.2:Nat),.int .i64 0]):=by
 refine ae hm KH (by simp) ?_;have C:=Yp n h;have j:=Yq n h;obtain⟨y,m,d,l,z,o,A,M,N,D,g⟩:=QF h;obtain⟨⟨Y,t⟩,b⟩:∃p,kO n=p:=⟨_,rfl⟩
 have E:Y=y:=by
  have:=congrArg Prod.fst g;unfold vG at this;rw[b]at this;exact this
 have a:ED Y t=m:=by
  have:=congrArg (fun p=>p.2.1) g;unfold vG at this;rw[b]at this;exact this
 have s:t-eI Y m+1=d:=by
  have:=congrArg (fun p=>p.2.2) g;unfold vG at this;rw[b]at this;simp only[a]at this;exact this
 subst E;rw[b]at j;simp only at j;have O:=yk Y m;have P:=Og Y m;have F:=O9 Y o A;have H:=pI Y o A;have I:ox Y<=366:=by unfold ox;split<;>omega
 have w:eI Y m<=t/\t<366:=by
  have c:kO n=(Y,eI Y m+d-1):=by
   have e:n=Cv.ahead Y+(eI Y m+d-1):=by rw[<-D];unfold nY;omega
   rw[e];exact FL l (by omega)
  rw[b]at c;have:=congrArg Prod.snd c;simp only at this;omega
 have f:(t:Int).tdiv 32=((t/32:Nat):Int):=Yn t 32 (by omega);have i:=xl Y (t/32+2) ⟨l,z⟩ (by omega) (by omega);rw[show((t/32+2:Nat):Int)=((t/32:Nat):Int)+1+1 by omega]at i;have x:=xl Y m ⟨l,z⟩ o (by omega);rw[g];simp only;unfold ED at a;obtain⟨k,J⟩:∃k,t/32=k:=⟨_,rfl⟩;rw[J]at f i a;obtain⟨u,B⟩:∃u,eI Y (k+2)=u:=⟨_,rfl⟩;obtain⟨v,K⟩:∃v,eI Y m=v:=⟨_,rfl⟩;rw[B]at i a;rw[K]at x w s;have L:u<=366:=by rw[<-B];exact yk _ _
 simp[CG];refine aa C ?_;simp(disch:=omega)[wl];refine aa j ?_;simp(disch:=omega)[wl,f];refine aa i ?_;by_cases q:u<=t
 ·rw[if_pos q]at a;have e:(k:Int)+1+1=(m:Int):=by omega
  simp(disch:=omega)[wl,e];refine aa x ?_;simp(disch:=omega)[wl];omega
 ·rw[if_neg q]at a;have e:(k:Int)+1=(m:Int):=by omega
  simp(disch:=omega)[wl,e];refine aa x ?_;simp(disch:=omega)[wl];omega
theorem Yr(y:Nat)(h:y<1000000):Fn G2 T_ 246 [.int .i64 y] (.int .i64 ((if 1<=y/\y<=9999 then ox y else 0:Nat):Nat)):=by
 refine ae hm KJ (by simp) ?_;have a:=Yo y h;simp[CK];by_cases b:1<=y
 ·by_cases c:y<=9999
  ·rw[J0 ⟨b,c⟩,Bool.true_and]at a;rw[if_pos ⟨b,c⟩];unfold ox;simp(disch:=omega)[wl];refine aa a ?_;cases sl y with
   |true=>simp(disch:=omega)[wl]
   |false=>simp(disch:=omega)[wl]
  ·rw[if_neg (by omega)];simp(disch:=omega)[wl]
 ·rw[if_neg (by omega)];simp(disch:=omega)[wl]
theorem U1(y m:Nat)(l:y<1000000)(n:m<1000000):Fn G2 T_ 185 [.int .i64 y,.int .i64 m] (.int .i64 (k9 y m:Nat)):=by
 refine ae hm Oc (by simp) ?_;have i:=Yr y l;have j:365<=ox y/\ox y<=366:=by unfold ox;split<;>omega
 simp[FP];refine aa i ?_;by_cases h:1<=y/\y<=9999
 ·rw[if_pos h];obtain⟨Y,k⟩:∃Y,ox y=Y:=⟨_,rfl⟩;rw[if_pos h]at i;rw[k]at i j |-;have c:¬Y=0:=by omega
  by_cases o:1<=m
  ·by_cases p:m<=12
   ·have g:k9 y m=oy y m:=by unfold k9;rw[if_pos ⟨h.1,h.2,o,p⟩]
    rw[g];by_cases f:m=2
    ·have:oy y m=Y-337:=by unfold oy;rw[if_pos f,k]
     rw[this];simp(disch:=omega)[wl,c,f];refine aa i ?_;simp(disch:=omega)[wl];omega
    ·by_cases d:m=4\/m=6\/m=9\/m=11
     ·have:oy y m=30:=by unfold oy;rw[if_neg f,if_pos d]
      rw[this];rcases d with e|e|e|e
      ·simp(disch:=omega)[wl,c,f,e]
      ·simp(disch:=omega)[wl,c,f,e]
      ·simp(disch:=omega)[wl,c,f,e]
      ·simp(disch:=omega)[wl,c,f,e]
     ·have:oy y m=31:=by unfold oy;rw[if_neg f,if_neg d]
      have e1:¬m=4:=fun e=>d (.inl e)
      have e2:¬m=6:=fun e=>d (.inr (.inl e))
      have q:¬m=9:=fun e=>d (.inr (.inr (.inl e)))
      have e4:¬m=11:=fun e=>d (.inr (.inr (.inr e)))
      rw[this];simp(disch:=omega)[wl,c,f,e1,e2,q,e4]
   ·have g:k9 y m=0:=by unfold k9;rw[if_neg (by omega)]
    rw[g];simp(disch:=omega)[wl,c]
  ·have g:k9 y m=0:=by unfold k9;rw[if_neg (by omega)]
   rw[g];simp(disch:=omega)[wl,c]
 ·have g:k9 y m=0:=by unfold k9;rw[if_neg (by omega)]
  rw[if_neg h,g];simp(disch:=omega)[wl]
theorem Ys(y:Nat):Cv.ahead y<=y*366:=by unfold Cv.ahead;omega
theorem VB(y:Nat)(l:1<=y)(m:y<=1000000):Fn G2 T_ 184 [.int .i64 y] (.int .i64 (Cv.ahead y:Nat)):=by
 refine ae hm IY (by simp) ?_;obtain⟨p,n⟩:∃p,y=p+1:=⟨y-1,by omega⟩;have e0:(y:Int)-1=(p:Int):=by omega
 have d:(p:Int).tdiv 4=((p/4:Nat):Int):=Yn p 4 (by omega);have e:(p:Int).tdiv 100=((p/100:Nat):Int):=Yn p 100 (by omega);have f:(p:Int).tdiv 400=((p/400:Nat):Int):=Yn p 400 (by omega)
 have g:Cv.ahead y=p*365+p/4-p/100+p/400:=by
  unfold Cv.ahead;rw[show y-1=p by omega]
 obtain⟨a,h⟩:∃a,p/4=a:=⟨_,rfl⟩;obtain⟨b,i⟩:∃b,p/100=b:=⟨_,rfl⟩;obtain⟨c,j⟩:∃c,p/400=c:=⟨_,rfl⟩;have k:b<=a/\a<=p/\c<=p:=by omega
 rw[h]at d;rw[i]at e;rw[j]at f;rw[h,i,j]at g;rw[g];simp[zO];simp(disch:=omega)[wl,e0,d,e,f];omega
theorem aaY(y m d:Nat)(n:y<1000000)(j:m<1000000)(C:d<1000000):Fn G2 T_ 228 [.int .i64 y,.int .i64 m,.int .i64 d] (oK (QI y m d)):=by
 refine ae hm Od (by simp) ?_;have o:=U1 y m n j;obtain⟨R,a⟩:∃R,QI y m d=R:=⟨_,rfl⟩;rw[a];unfold QI at a;simp[FR];by_cases p:d<1
 ·rw[if_pos (.inl p)]at a;subst a;simp(disch:=omega)[wl,oK]
 ·by_cases g:k9 y m<d
  ·rw[if_pos (.inr g)]at a;subst a;simp(disch:=omega)[wl];refine aa o ?_;simp(disch:=omega)[wl,oK]
  ·rw[if_neg (fun h=>h.elim p g)]at a;subst a
   have k:1<=y/\y<=9999/\1<=m/\m<=12:=by
    by_cases h:1<=y/\y<=9999/\1<=m/\m<=12
    ·exact h
    ·unfold k9 at g;rw[if_neg h]at g;omega
   have q:=VB y k.1 (by omega);have s:=Ys y;have D:=U0 y m;have u1:eI y 1=0:=by unfold eI;rw[if_neg (by omega)];rfl
   obtain⟨A,c⟩:∃A,Cv.ahead y=A:=⟨_,rfl⟩;rw[c]at q s;simp(disch:=omega)[wl];refine aa o ?_;simp(disch:=omega)[wl];refine aa q ?_;simp(disch:=omega)[wl];refine be hm [] (fun i:Nat=>[(9,.val (.int .i64 i)),(8,.val (.int .i64 ((A+d-1+eI y i:Nat):Nat)))]) (fun _=>[]) (fun i=>1<=i/\i<=m) (fun i=>m-i) 1 ⟨by omega,by omega⟩ ?_ ?_
   ·simp[u1];exact ag rfl rfl (by simp[aI,ap,ac];omega) (by simp[bD,ac]) (by simp[bB])
   rintro i ⟨Kl,w⟩;simp;by_cases h:i<m
   ·have f:=U1 y i n (by omega);have e:k9 y i=oy y i:=by unfold k9;rw[if_pos ⟨k.1,k.2.1,Kl,by omega⟩]
    have b:=pI y Kl (by omega:i<=12);have x:=yk y i;have z:=Og y i;rw[e]at f;simp(disch:=omega)[wl];refine aa f ?_;obtain⟨u,B⟩:∃u,eI y i=u:=⟨_,rfl⟩;obtain⟨v,l⟩:∃v,oy y i=v:=⟨_,rfl⟩;rw[B]at b x |-;rw[l]at b z |-;simp(disch:=omega)[wl];refine ai (i+1) ⟨by omega,by omega⟩ (by omega) ?_;simp[b];exact ag rfl rfl (by simp[aI,ap,ac];omega) (by simp[bD,ac]) (by simp[bB])
   ·obtain rfl:i=m:=by omega
    have l:nY y i d=A+d-1+eI y i:=by unfold nY;rw[c];omega
    rw[l];simp(disch:=omega)[wl,oK]
theorem af8{a b:Nat}(d:1<=a)(f:a<=b):Cv.ahead a<=Cv.ahead b:=by
 induction b with
 |zero=>omega
 |succ b c=>
  by_cases e:a=b+1
  ·rw[e];exact Nat.le_refl _
  ·have:=c (by omega);have:=Be (y:=b) (by omega);omega
theorem afZ(y:Nat){a b:Nat}(d:1<=a)(f:a<=b)(g:b<=13):eI y a<=eI y b:=by
 induction b with
 |zero=>omega
 |succ b c=>
  by_cases e:a=b+1
  ·rw[e];exact Nat.le_refl _
  ·have:=c (by omega) (by omega);have:=pI y (m:=b) (by omega) (by omega);omega
theorem agm(n:Nat)(h:n<=3652058):Fn G2 T_ 128 [.int .i64 n] (.tuple [.int .i64 ((vG n).1:Nat),.int .i64 ((vG n).2.1:Nat),.int .i64 ((vG n).2.2:Nat),.int .i64 0]):=by
 refine ae hm afV (by simp) ?_;obtain⟨Y,M,d,w,K,H,I,g5,g6,L,N⟩:=QF h;rw[N];simp only;have O:=Og Y M;have x:=pI Y H I;have P:=O9 Y H I;have has:=Be w;have Q:ox Y<=366:=by unfold ox;split<;>omega
 have R:=Ys Y;obtain⟨A,z⟩:∃A,Cv.ahead Y=A:=⟨_,rfl⟩;obtain⟨U,s⟩:∃U,eI Y M=U:=⟨_,rfl⟩;have hn:n=A+U+d-1:=by rw[<-L];unfold nY;rw[z,s]
 rw[s]at x;rw[z]at has R;have m:n<Cv.ahead (Y+1):=by omega
 have b2:=Ys (Y+1);have b3:n<Y*366:=by unfold Cv.ahead at m;omega
 have g:(n:Int).tdiv 366=((n/366:Nat):Int):=Yn n 366 (by omega);have S:n/366+1<=Y:=by omega
 obtain⟨q,C⟩:∃q,n/366=q:=⟨_,rfl⟩;rw[C]at g S;simp[aeI];simp(disch:=omega)[wl,g];refine be hm [] (fun y:Nat=>[(6,.val (.int .i64 y))]) (fun _=>[]) (fun y=>1<=y/\y<=Y) (fun y=>Y-y) (q+1) ⟨by omega,by omega⟩ ?_ ?_
 ·simp;exact bp
 rintro y ⟨V,W⟩;simp;have l:=VB (y+1) (by omega) (by omega);rw[show((y+1:Nat):Int)=(y:Int)+1 by omega]at l;by_cases hy:y<Y
 ·have D:=af8 (a:=y+1) (b:=Y) (by omega) (by omega);simp(disch:=omega)[wl];refine aa l ?_;obtain⟨B,E⟩:∃B,Cv.ahead (y+1)=B:=⟨_,rfl⟩;rw[E]at D |-;simp(disch:=omega)[wl];refine ai (y+1) ⟨by omega,by omega⟩ (by omega) ?_;simp;exact bp
 ·obtain rfl:y=Y:=by omega
  have o:=VB y w (by omega);rw[z]at o;simp(disch:=omega)[wl];refine aa l ?_;obtain⟨B,E⟩:∃B,Cv.ahead (y+1)=B:=⟨_,rfl⟩;rw[E]at m |-;simp(disch:=omega)[wl];refine aa o ?_;simp(disch:=omega)[wl];have u1:eI y 1=0:=by unfold eI;rw[if_neg (by omega)];rfl
  refine be hm [] (fun i:Nat=>[(7,.val (.int .i64 i)),(8,.val (.int .i64 ((n-A+1-eI y i:Nat):Nat)))]) (fun _=>[]) (fun i=>1<=i/\i<=M) (fun i=>M-i) 1 ⟨by omega,by omega⟩ ?_ ?_
  ·simp[u1];exact ag rfl rfl (by simp[aI,ap,ac];omega) (by simp[bD,ac]) (by simp[bB])
  rintro i ⟨Kl,F⟩;simp;have c:=U1 y i (by omega) (by omega);have e:k9 y i=oy y i:=by unfold k9;rw[if_pos ⟨w,K,Kl,by omega⟩]
  rw[e]at c;have f:=pI y Kl (by omega:i<=12);have X:=yk y i;have Z:=Og y i;have j:=afZ y Kl F (by omega);rw[s]at j;obtain⟨v,hv⟩:∃v,oy y i=v:=⟨_,rfl⟩;rw[hv]at c f Z;by_cases hi:i<M
  ·have k:=afZ y (a:=i+1) (b:=M) (by omega) (by omega) (by omega);rw[s]at k;obtain⟨u,hu⟩:∃u,eI y i=u:=⟨_,rfl⟩;obtain⟨J,p⟩:∃J,eI y (i+1)=J:=⟨_,rfl⟩;rw[hu]at f X j |-;rw[p]at f k;refine aa c ?_;simp(disch:=omega)[wl];refine aa c ?_;simp(disch:=omega)[wl];refine ai (i+1) ⟨by omega,by omega⟩ (by omega) ?_;simp[p];exact ag rfl rfl (by simp[aI,ap,ac];omega) (by simp[bD,ac]) (by simp[bB])
  ·obtain rfl:i=M:=by omega
   have e2:n-A+1-eI y i=d:=by omega
   rw[e2];have a':d<=v:=by omega
   refine aa c ?_;simp(disch:=omega)[wl]
end Go.Vs.YtcjeehebikeghaaGreatDoor.Rc
