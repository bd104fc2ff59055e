/- A part of a proof. No conditions. -/
import Derived.Test.YtcjeehebikeghaaGreatDoorBK
set_option linter.unusedVariables false
set_option linter.unusedSimpArgs false
set_option maxRecDepth 100000
set_option maxHeartbeats 4000000
namespace Go.Vs.YtcjeehebikeghaaGreatDoor
open Go.Proofs Go.Vs.U8 Go.Vs.Pa Go.Vs.Nu Go.Lib
def eH(digits:Nat)(lo hi:Int)(signed:Bool)(s:Str):Int×Int:=
 let sg:Bool:=signed&&(decide (s[0]?=some 43)||decide (s[0]?=some 45))
 let b:=if sg then s.drop 1 else s
 if b=[]\/digits<b.length\/b.all dL=false then (0,4)
 else if (bx 0 b:Int)<lo\/hi<(bx 0 b:Int)then (0,8)
 else (if sg=true/\s[0]?=some 45 then -(bx 0 b:Int)else (bx 0 b:Int),0)
inductive GotE(α:Type) where
 |no (e:Int) (p:Nat)
 |ok (l:List α)
def kH{α:Type} [DecidableEq α](one:Str->α×Int):List Str->Nat->List α->GotE α
 |[],_,out=>.ok out
 |x::r,at',out=>if out.length=12 then .no 20 at' else
  if (one x).2≠0 then .no (one x).2 at'
  else if (one x).1∈out then .no 19 at'
  else kH one r (at'+x.length+1) (out++[(one x).1])
def dC{α:Type} [DecidableEq α](one:Str->α×Int)(s:Str):GotE α:=kH one (parts 44 s) 0 []
theorem Vm{l:Str}(h:l.all dL=true){c:UInt8}(hc:dL c=false):c∉l:=fun hm=>by
 have:=List.all_eq_true.1 h c hm;rw[hc]at this;cases this
def EM(s:Str):Int:=
 if s=[77,79]then 0 else if s=[84,85]then 1 else if s=[87,69]then 2 else if s=[84,72]then 3 else if s=[70,82]then 4 else if s=[83,65]then 5 else if s=[83,85]then 6 else -1
def WD:Str:=[77,79,84,85,87,69,84,72,70,82,83,65,83,85]
def NY(d:Int):Str:=if d<0\/6<d then []else (WD.drop (2*d.toNat)).take 2
abbrev Dn:=Int×Int
def y6(s:Str):Dn×Int:=
 if s.length<2 then ((0,0),4)
 else if EM (s.drop (s.length-2))<0 then ((0,0),4)
 else if s.length=2 then ((0,EM (s.drop (s.length-2))),0)
 else if (eH 2 1 53 true (s.take (s.length-2))).2≠0 then ((0,0),(eH 2 1 53 true (s.take (s.length-2))).2)
 else (((eH 2 1 53 true (s.take (s.length-2))).1,EM (s.drop (s.length-2))),0)
def dayT(x:Dn):Str:=(if x.1=0 then []else itoa x.1)++NY x.2
theorem JA{d:Int}(h0:0<=d)(h6:d<=6):d=0\/d=1\/d=2\/d=3\/d=4\/d=5\/d=6:=by omega
theorem T7{d:Int}(h0:0<=d)(h6:d<=6):EM (NY d)=d/\(NY d).length=2:=by
 rcases JA h0 h6 with rfl|rfl|rfl|rfl|rfl|rfl|rfl<;>decide
theorem NZ(s:Str):-1<=EM s/\EM s<=6:=by
 unfold EM
 repeat' split
 all_goals omega
def Vn(l:List Int):Str:=join (l.map itoa) [44]
def Vo(l:List Dn):Str:=join (l.map dayT) [44]
end Go.Vs.YtcjeehebikeghaaGreatDoor
namespace Go.Vs.YtcjeehebikeghaaGreatDoor
open Go.Proofs
def CX:VCode:=Q_ 8 [.n 0,.K (.const (.val .nili))] (V_ 13 19 [.m 0,.m 1,.m 2,.m 3,.g (.call 216 [tm 13,ci 5,tm 14,tm 15,tm 16]),.a 12,.e 12 0,.e 12 1,.M 10 18,.a 11] (R_ 20 22 [.m 10,.m 11,.g (.call 38 [tm 21,ci 0]),.M 8 20,.a 9] .ret))
theorem JB:FnOk T_ 151 CX [.tmp 8,.tmp 9] 23:=fK_ Tryz.func151
def o8:VCode:=Q_ 2 [.K (cs [])] (.seq (C_ 3 7 [.m 0,.i .lss 0,.w,.m 0,.i .gtr 6,.O] (Q_ 2 [.K (cs [])] .ret) .skip) (R_ 9 12 [.m 0,.g (.bin .mul (ci 2) (tm 9)),.g (.subS (cs [77,79,84,85,87,69,84,72,70,82,83,65,83,85]) (some (tm 10)) none),.g (.subS (tm 11) none (some (ci 2))),.a 2] .ret))
theorem uN:FnOk T_ 205 o8 [.tmp 2] 13:=fK_ Tryz.func205
def vw:VCode:=Q_ 10 [.n 0,.n 0] (Q_ 12 [.K (cb false)] (.cut (.seq (C_ 15 24 [.m 4,.z,.m 0,.g (.bin .neq (tm 17) (cs [])),.A,.z,.m 0,.g (.indexS (tm 21) (ci 0)),.g (.call 200 [cs [43,45],tm 22]),.i .geq 0,.A] (.region (D_ [.m 0,.g (.indexS (tm 26) (ci 0)),.U .eql 45,.m 0,.g (.subS (tm 29) (some (ci 1)) none),.M 12 28,.a 0] 26) .calm [26,30]) .skip) (.seq (C_ 31 42 [.m 0,.t [],.w,.m 0,.h,.m 1,.b .gtr,.O,.w,.m 0,.g (.call 282 [tm 40,cs [48,49,50,51,52,53,54,55,56,57]]),.g (.bin .neq (tm 41) (cs [])),.O] (Q_ 10 [.n 0,.n 4] .ret) .skip) (Q_ 13 [.n 0] (.cut (.seq (Q_ 14 [.n 0] (.block 0 (.loop (.seq (C_ 44 46 [.m 14,.m 0,.h,.b .lss] .skip (.exit 0)) (.seq (.block 1 (X_ 50 57 [.m 13,.g (.bin .mul (ci 10) (tm 50)),.m 0,.m 14,.y,.U .sub 48,.g (.convI .i64 (tm 55)),.g (.bin .add (tm 51) (tm 56)),.a 13])) (X_ 48 49 [.m 14,.P 1,.a 14])))))) (.seq (C_ 58 64 [.m 13,.m 2,.b .lss,.w,.m 13,.m 3,.b .gtr,.O] (Q_ 10 [.n 0,.n 8] .ret) .skip) (.cut (.seq (Q_ 66 [.m 12] (c_ 66 (X_ 67 68 [.m 13,.g (.un .neg (tm 67)),.a 13]) .skip)) (R_ 69 69 [.m 13,.a 10,.j 11 0] .ret)))))))))))
theorem CZ:FnOk T_ 216 vw [.tmp 10,.tmp 11] 70:=fK_ Tryz.func216
def mU:VCode:=Q_ 4 [.K (cs [])] (.seq (C_ 7 11 [.m 0,.t [],.w,.m 1,.t [],.O] (R_ 13 13 [.m 0,.a 4] .ret) .skip) (.seq (C_ 14 20 [.m 1,.h,.E 1,.z,.m 1,.g (.indexS (tm 18) (ci 0)),.U .lss 128,.A] (R_ 22 25 [.m 0,.m 1,.g (.indexS (tm 23) (ci 0)),.g (.call 289 [tm 22,tm 24]),.a 4] .ret) .skip) (.seq (V_ 27 30 [.m 1,.c1 290,.a 26,.e 26 0,.e 26 1,.Y 5 CO,.T 256 5 29,.a 6] (Q_ 31 [.m 6] (c_ 31 (R_ 32 33 [.m 0,.g (.call 291 [tm 32,tm 5]),.a 4] .ret) .skip))) (R_ 34 36 [.m 0,.m 1,.c2 292,.a 4] .ret))))
theorem th:FnOk T_ 223 mU [.tmp 4] 37:=fK_ Tryz.func223
def mW:VCode:=Q_ 4 [.K (cs []),.K (cb false)] (R_ 6 10 [.m 0,.m 1,.c2 293,.e 8 0,.e 8 1,.M 4 9,.a 5] .ret)
theorem ti:FnOk T_ 224 mW [.tmp 4,.tmp 5] 11:=fK_ Tryz.func224
def lh:VCode:=Q_ 4 [.K (cb false)] (R_ 5 8 [.m 0,.m 1,.c2 313,.i .geq 0,.a 4] .ret)
theorem rj:FnOk T_ 264 lh [.tmp 4] 9:=fK_ Tryz.func264
def tj:VCode:=Q_ 4 [.K (cs [])] (.seq (C_ 7 11 [.m 0,.t [],.w,.m 1,.t [],.O] (R_ 13 13 [.m 0,.a 4] .ret) .skip) (.seq (C_ 14 20 [.m 1,.h,.E 1,.z,.m 1,.g (.indexS (tm 18) (ci 0)),.U .lss 128,.A] (.seq (.region (D_ [.m 0,.m 1,.g (.indexS (tm 23) (ci 0)),.g (.call 289 [tm 22,tm 24]),.m 1,.g (.indexS (tm 26) (ci 0)),.g (.call 324 [tm 25,tm 27]),.a 4] 22) (.drawn [(3,4),(3,5)] (Co [(3,[(0,2),(4,5)]),(6,[(0,5)])])) [22,28]) .ret) .skip) (.seq (V_ 30 33 [.m 1,.c1 290,.a 29,.e 29 0,.e 29 1,.Y 5 CO,.T 256 5 32,.a 6] (Q_ 34 [.m 6] (c_ 34 (R_ 35 37 [.m 0,.g (.call 291 [tm 35,tm 5]),.g (.call 325 [tm 36,tm 5]),.a 4] .ret) .skip))) (R_ 38 42 [.m 0,.m 1,.c2 292,.m 1,.c2 326,.a 4] .ret))))
theorem B6:FnOk T_ 282 tj [.tmp 4] 43:=fK_ Tryz.func282
def Ay:VCode:=Q_ 2 [.K (.const .nils),.K (.const (.val .nili))] (R_ 4 7 [.m 0,.g (.call 328 [tm 4,.func 329]),.e 5 0,.e 5 1,.M 2 6,.a 3] .ret)
theorem Hq:FnOk T_ 285 Ay [.tmp 2,.tmp 3] 8:=fK_ Tryz.func285
def AA:VCode:=Q_ 5 [.X 1,.X 2,.X 3,.K (.const .nils),.K (.const (.val .nili))] (R_ 10 14 [.m 0,.g (.mkFunc 331 [tm 5,tm 6,tm 7]),.c2 330,.e 12 0,.e 12 1,.M 8 13,.a 9] .ret)
theorem Hr:FnOk T_ 286 AA [.tmp 8,.tmp 9] 15:=fK_ Tryz.func286
def tp:VCode:=Q_ 2 [.n 0] (.seq (Q_ 3 [.m 0] (.block 0 (R_ 5 5 [.g (.bin .eql (tm 3) (cs [77,79])),.a 4] (c_ 4 (Q_ 2 [.n 0] .ret) (R_ 7 7 [.g (.bin .eql (tm 3) (cs [84,85])),.a 6] (c_ 6 (Q_ 2 [.n 1] .ret) (R_ 9 9 [.g (.bin .eql (tm 3) (cs [87,69])),.a 8] (c_ 8 (Q_ 2 [.n 2] .ret) (R_ 11 11 [.g (.bin .eql (tm 3) (cs [84,72])),.a 10] (c_ 10 (Q_ 2 [.n 3] .ret) (R_ 13 13 [.g (.bin .eql (tm 3) (cs [70,82])),.a 12] (c_ 12 (Q_ 2 [.n 4] .ret) (R_ 15 15 [.g (.bin .eql (tm 3) (cs [83,65])),.a 14] (c_ 14 (Q_ 2 [.n 5] .ret) (R_ 17 17 [.g (.bin .eql (tm 3) (cs [83,85])),.a 16] (c_ 16 (Q_ 2 [.n 6] .ret) .skip)))))))))))))))) (Q_ 2 [.n (-1)] .ret))
theorem B7:FnOk T_ 287 tp [.tmp 2] 18:=fK_ Tryz.func287
def jx:VCode:=Q_ 4 [.K (cs [])] (.seq (.block 0 (.loop (.seq (C_ 5 6 [.m 0,.h,.i .gtr 0] .skip (.exit 0)) (.block 1 (.seq (C_ 8 14 [.m 1,.m 0,.m 0,.h,.i .sub 1,.y,.c2 332,.u] (.exit 0) .skip) (X_ 16 20 [.m 0,.m 0,.h,.i .sub 1,.g (.subS (tm 16) none (some (tm 19))),.a 0])))))) (R_ 21 21 [.m 0,.a 4] .ret))
theorem oP:FnOk T_ 291 jx [.tmp 4] 22:=fK_ Tryz.func291
def fE:VCode:=Q_ 4 [.K (cs []),.K (cb false)] (.seq (C_ 6 8 [.m 0,.m 1,.c2 335,.u] (R_ 10 10 [.m 0,.a 4,.J 5 (cb false)] .ret) .skip) (R_ 11 17 [.m 0,.m 0,.h,.m 1,.h,.b .sub,.g (.subS (tm 11) none (some (tm 16))),.a 4,.J 5 (cb true)] .ret))
theorem kl:FnOk T_ 293 fE [.tmp 4,.tmp 5] 18:=fK_ Tryz.func293
def jz:VCode:=Q_ 3 [.X 1,.K (cb false)] (R_ 5 8 [.m 0,.W 2 3,.c2 338,.i .geq 0,.a 4] .ret)
theorem oQ:FnOk T_ 306 jz [.tmp 4] 9:=fK_ Tryz.func306
def od:VCode:=Q_ 4 [.n 0] (.seq (G_ 6 [.m 0,.v,.n 0] [6,6] (.block 0 (.loop (Q_ 9 [.g (.bin .lss (tm 8) (tm 7))] (.seq (c_ 9 .skip (.exit 0)) (.seq (.block 1 (R_ 10 10 [.m 8,.a 5] (C_ 11 15 [.m 1,.m 0,.m 5,.x 1,.l,.b .eql] (R_ 17 17 [.m 5,.a 4] .ret) .skip))) (X_ 18 18 [.g (.bin .add (tm 8) (ci 1)),.a 8]))))))) (Q_ 4 [.n (-1)] .ret))
theorem uO:FnOk T_ 313 od [.tmp 4] 19:=fK_ Tryz.func313
def kd:VCode:=Q_ 4 [.K (cs [])] (.seq (.block 0 (.loop (.seq (C_ 5 6 [.m 0,.h,.i .gtr 0] .skip (.exit 0)) (.block 1 (.seq (C_ 8 11 [.m 1,.m 0,.g (.indexS (tm 9) (ci 0)),.g (.call 332 [tm 8,tm 10]),.u] (.exit 0) .skip) (X_ 13 14 [.m 0,.g (.subS (tm 13) (some (ci 1)) none),.a 0])))))) (R_ 15 15 [.m 0,.a 4] .ret))
theorem pG:FnOk T_ 325 kd [.tmp 4] 16:=fK_ Tryz.func325
def iN:VCode:=Q_ 4 [.K (.const .nils),.K (.const (.val .nili))] (Q_ 6 [.K (.const .nils)] (Q_ 7 [.n 0] (.seq (G_ 12 [.m 0,.g (.call 209 [tm 12,cs [44]]),.v,.n 0] [12,12] (.block 0 (.loop (Q_ 16 [.g (.bin .lss (tm 15) (tm 14))] (.seq (c_ 16 .skip (.exit 0)) (.seq (.block 1 (R_ 17 18 [.g (.indexAddr 1 (tm 13) (tm 15)),.l,.a 9] (.seq (C_ 19 20 [.m 6,.v,.E 12] (R_ 22 23 [.m 7,.g (.call 38 [ci 20,tm 22]),.J 4 (.const .nils),.a 5] .ret) .skip) (V_ 25 29 [.m 1,.m 9,.g (.callV (tm 25) [tm 26]),.a 24,.e 24 0,.e 24 1,.Y 10 z_7,.T 2 10 28,.a 11] (.seq (C_ 30 35 [.m 11,.E 0,.z,.m 6,.W 2 10,.c2 306,.A] (Y_ 11 [.n 19]) .skip) (.seq (C_ 37 37 [.m 11,.N 0] (R_ 39 41 [.m 11,.m 7,.c2 38,.J 4 (.const .nils),.a 5] .ret) .skip) (R_ 42 45 [.m 6,.W 2 10,.g (.buildSlice 2 1 z_7 [(0,2,tm 43)]),.g (.append 269 2 16 (tm 42) (tm 44)),.a 6] (X_ 46 50 [.m 7,.m 9,.h,.P 1,.b .add,.a 7])))))))) (X_ 51 51 [.g (.bin .add (tm 15) (ci 1)),.a 15]))))))) (R_ 52 52 [.m 6,.a 4,.J 5 (.const (.val .nili))] .ret))))
theorem nt:FnOk T_ 328 iN [.tmp 4,.tmp 5] 53:=fK_ Tryz.func328
def D0:VCode:=Q_ 2 [.Z z_7,.n 0] (R_ 8 10 [.m 0,.h,.i .sub 2,.a 4] (.seq (C_ 11 11 [.m 4,.i .lss 0] (R_ 13 13 [.D z_7,.s 2 2,.j 3 4] .ret) .skip) (R_ 14 17 [.m 0,.m 4,.g (.subS (tm 14) (some (tm 15)) none),.c1 287,.a 5] (.seq (C_ 18 18 [.m 5,.i .lss 0] (R_ 20 20 [.D z_7,.s 2 2,.j 3 4] .ret) .skip) (.seq (C_ 21 21 [.m 4,.E 0] (R_ 23 24 [.m 5,.g (.build z_7 [(1,1,tm 23)]),.s 2 2,.j 3 0] .ret) .skip) (V_ 26 31 [.m 0,.m 4,.g (.subS (tm 26) none (some (tm 27))),.g (.call 216 [tm 28,ci 2,ci 1,ci 53,cb true]),.a 25,.e 25 0,.e 25 1,.M 6 30,.a 7] (.seq (C_ 32 32 [.m 7,.N 0] (R_ 34 35 [.D z_7,.m 7,.T 2 2 34,.a 3] .ret) .skip) (R_ 36 38 [.m 6,.m 5,.g (.build z_7 [(0,1,tm 36),(1,1,tm 37)]),.s 2 2,.j 3 0] .ret))))))))
theorem JC:FnOk T_ 329 D0 [.cell 2 (some 2),.tmp 3] 39:=fK_ Tryz.func329
def kf:VCode:=Q_ 4 [.K (.const .nils),.K (.const (.val .nili))] (Q_ 6 [.K (.const .nils)] (Q_ 7 [.n 0] (.seq (G_ 12 [.m 0,.g (.call 209 [tm 12,cs [44]]),.v,.n 0] [12,12] (.block 0 (.loop (Q_ 16 [.g (.bin .lss (tm 15) (tm 14))] (.seq (c_ 16 .skip (.exit 0)) (.seq (.block 1 (R_ 17 18 [.g (.indexAddr 1 (tm 13) (tm 15)),.l,.a 9] (.seq (C_ 19 20 [.m 6,.v,.E 12] (R_ 22 23 [.m 7,.g (.call 38 [ci 20,tm 22]),.J 4 (.const .nils),.a 5] .ret) .skip) (V_ 25 29 [.m 1,.m 9,.g (.callV (tm 25) [tm 26]),.a 24,.e 24 0,.e 24 1,.M 10 28,.a 11] (.seq (C_ 30 35 [.m 11,.E 0,.z,.m 6,.m 10,.c2 264,.A] (Y_ 11 [.n 19]) .skip) (.seq (C_ 37 37 [.m 11,.N 0] (R_ 39 41 [.m 11,.m 7,.c2 38,.J 4 (.const .nils),.a 5] .ret) .skip) (R_ 42 45 [.m 6,.m 10,.g (.buildSlice 1 1 (z_ [.i]) [(0,1,tm 43)]),.g (.append 3 1 8 (tm 42) (tm 44)),.a 6] (X_ 46 50 [.m 7,.m 9,.h,.P 1,.b .add,.a 7])))))))) (X_ 51 51 [.g (.bin .add (tm 15) (ci 1)),.a 15]))))))) (R_ 52 52 [.m 6,.a 4,.J 5 (.const (.val .nili))] .ret))))
theorem pH:FnOk T_ 330 kf [.tmp 4,.tmp 5] 53:=fK_ Tryz.func330
def vA:VCode:=Q_ 5 [.n 0,.n 0] (R_ 7 13 [.m 0,.g (.load none (tm 1)),.g (.load none (tm 2)),.g (.load none (tm 3)),.g (.call 216 [tm 7,ci 5,tm 8,tm 9,tm 10]),.e 11 0,.e 11 1,.M 5 12,.a 6] .ret)
theorem D2:FnOk T_ 331 vA [.tmp 5,.tmp 6] 14:=fK_ Tryz.func331
def fG:VCode:=Q_ 4 [.K (cb false)] (R_ 5 20 [.m 0,.h,.m 1,.h,.b .geq,.z,.m 0,.m 0,.h,.m 1,.h,.b .sub,.g (.subS (tm 11) (some (tm 16)) none),.m 1,.b .eql,.A,.a 4] .ret)
theorem kn:FnOk T_ 335 fG [.tmp 4] 21:=fK_ Tryz.func335
def lk:VCode:=Q_ 3 [.X 1,.n 0] (.seq (G_ 6 [.m 0,.v,.n 0] [6,6] (.block 0 (.loop (Q_ 9 [.g (.bin .lss (tm 8) (tm 7))] (.seq (c_ 9 .skip (.exit 0)) (.seq (.block 1 (R_ 10 10 [.m 8,.a 5] (.seq (.region (D_ [.W 2 3,.m 0,.m 5,.x 2,.L 2,.g (.eqA false [.i,.i] (tm 11) (tm 15))] 11) .calm [11,15]) (c_ 16 (R_ 17 17 [.m 5,.a 4] .ret) .skip)))) (X_ 18 18 [.g (.bin .add (tm 8) (ci 1)),.a 8]))))))) (Q_ 4 [.n (-1)] .ret))
theorem rl:FnOk T_ 338 lk [.tmp 4] 19:=fK_ Tryz.func338
end Go.Vs.YtcjeehebikeghaaGreatDoor
