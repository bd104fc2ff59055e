/- A part of a proof. No conditions. -/
import Derived.Test.YtcjeehebikeghaaGreatDoorBKz
set_option linter.unusedVariables false
set_option linter.unusedSimpArgs false
set_option maxRecDepth 100000
set_option maxHeartbeats 4000000
namespace Go.Vs.YtcjeehebikeghaaGreatDoor
open Go.Proofs Go.Vs.U8 Go.Vs.Pa Go.Vs.Nu Go.Lib
def cF(digits:Nat)(h hi:Int)(a:Bool)(s:Str):Int×Int:=
 let g:Bool:=a&&(decide (s[0]?=some 43)||decide (s[0]?=some 45))
 let b:=if g then s.drop 1 else s
 if b=[]\/digits<b.length\/b.all d7=false then (0,4)
 else if (bt 0 b:Int)<h\/hi<(bt 0 b:Int)then (0,8)
 else (if g=true/\s[0]?=some 45 then -(bt 0 b:Int)else (bt 0 b:Int),0)
inductive GotE(α:Type) where
 |no (e:Int) (p:Nat)
 |ok (l:List α)
def em{c:Type} [DecidableEq c](one:Str->c×Int):List Str->Nat->List c->GotE c
 |[],_,a=>.ok a
 |x::r,b,a=>if a.length=12 then .no 20 b else
  if (one x).2≠0 then .no (one x).2 b
  else if (one x).1∈a then .no 19 b
  else em one r (b+x.length+1) (a++[(one x).1])
def bK{a:Type} [DecidableEq a](one:Str->a×Int)(s:Str):GotE a:=em one (parts 44 s) 0 []
theorem SB{c:UInt8}{x:Str}(h:c∉x)(r:Str):parts c (x++c::r)=x::parts c r:=by
 have a:(x++c::r)[x.length]?=some c:=by rw[List.getElem?_append_right (Nat.le_refl _),Nat.sub_self];rfl
 have:=Ck a (by rw[List.take_left];exact h);rw[this,List.take_left];congr 2;rw[show x.length+1=(x++[c]).length by simp,show x++c::r=(x++[c])++r by simp,List.drop_left]
theorem af4(u:Nat):itoa (u:Int)=decDigits u:=by unfold itoa;rw[if_neg (by omega)];simp
theorem afs(u:Nat)(h:1<=u):itoa (-(u:Int))=45::decDigits u:=by unfold itoa;rw[if_pos (by omega)];simp
def vO(s:Str):Int:=
 if s=[77,79]then 0 else if s=[84,85]then 1 else if s=[87,69]then 2 else if s=[84,72]then 3 else if s=[70,82]then 4 else if s=[83,65]then 5 else if s=[83,85]then 6 else -1
def Cl:Str:=[77,79,84,85,87,69,84,72,70,82,83,65,83,85]
def Vq(d:Int):Str:=if d<0\/6<d then []else (Cl.drop (2*d.toNat)).take 2
abbrev Dn:=Int×Int
def nS(s:Str):Dn×Int:=
 if s.length<2 then ((0,0),4)
 else if vO (s.drop (s.length-2))<0 then ((0,0),4)
 else if s.length=2 then ((0,vO (s.drop (s.length-2))),0)
 else if (cF 2 1 53 true (s.take (s.length-2))).2≠0 then ((0,0),(cF 2 1 53 true (s.take (s.length-2))).2)
 else (((cF 2 1 53 true (s.take (s.length-2))).1,vO (s.drop (s.length-2))),0)
def dayT(x:Dn):Str:=(if x.1=0 then []else itoa x.1)++Vq x.2
theorem Qp{d:Int}(a:0<=d)(b:d<=6):d=0\/d=1\/d=2\/d=3\/d=4\/d=5\/d=6:=by omega
theorem aaL{d:Int}(a:0<=d)(b:d<=6):vO (Vq d)=d/\(Vq d).length=2:=by
 rcases Qp a b with rfl|rfl|rfl|rfl|rfl|rfl|rfl<;>decide
theorem My(s:Str):-1<=vO s/\vO s<=6:=by
 unfold vO
 repeat' split
 all_goals omega
def acZ(l:List Int):Str:=join (l.map itoa) [44]
def ac0(l:List Dn):Str:=join (l.map dayT) [44]
end Go.Vs.YtcjeehebikeghaaGreatDoor
namespace Go.Vs.YtcjeehebikeghaaGreatDoor
open Go.Proofs
def adT:VCode:=Q_ 2 [.K (cs [])] (Q_ 3 [.K (cs [])] (.seq (Q_ 4 [.n 0] (.block 0 (.loop (.seq (C_ 5 7 [.m 4,.m 0,.v,.b .lss] .skip (.exit 0)) (.seq (.block 1 (.seq (C_ 11 11 [.m 4,.i .gtr 0] (X_ 13 14 [.m 3,.g (.bin .add (tm 13) (cs [44])),.a 3]) .skip) (X_ 15 21 [.m 3,.m 0,.m 4,.x 1,.l,.c1 126,.b .add,.a 3]))) (X_ 9 10 [.m 4,.P 1,.a 4])))))) (R_ 22 22 [.m 3,.a 2] .ret)))
theorem aft:FnOk T_ 76 adT [.tmp 2] 23:=fK_ Tryz.func76
def Fw:VCode:=Q_ 8 [.n 0,.n 0] (Q_ 10 [.n 1,.n 0] (.cut (.seq (C_ 14 28 [.m 3,.z,.m 0,.h,.i .gtr 0,.A,.z,.m 0,.g (.indexS (tm 21) (ci 0)),.U .eql 43,.w,.m 0,.g (.indexS (tm 25) (ci 0)),.U .eql 45,.O,.A] (Q_ 11 [.n 1] (C_ 30 31 [.m 0,.g (.indexS (tm 30) (ci 0)),.U .eql 45] (Y_ 10 [.n (-1)]) .skip)) .skip) (.seq (C_ 33 43 [.m 0,.h,.m 11,.b .sub,.i .lss 1,.w,.m 0,.h,.m 11,.b .sub,.i .gtr 5,.O] (Q_ 8 [.n 0,.n 4] .ret) .skip) (Q_ 12 [.n 0] (.cut (.seq (R_ 45 45 [.m 11,.a 13] (.block 0 (.loop (.seq (C_ 46 48 [.m 13,.m 0,.h,.b .lss] .skip (.exit 0)) (.seq (.block 1 (.seq (C_ 52 60 [.m 0,.m 13,.y,.U .lss 48,.w,.m 0,.m 13,.y,.U .gtr 57,.O] (Q_ 8 [.n 0,.n 4] .ret) .skip) (X_ 62 69 [.m 12,.i .mul 10,.m 0,.m 13,.y,.U .sub 48,.g (.convI .i64 (tm 67)),.g (.bin .add (tm 63) (tm 68)),.a 12]))) (X_ 50 51 [.m 13,.P 1,.a 13])))))) (.seq (C_ 70 76 [.m 12,.m 1,.b .lss,.w,.m 12,.m 2,.b .gtr,.O] (Q_ 8 [.n 0,.n 8] .ret) .skip) (R_ 78 80 [.m 10,.m 12,.b .mul,.a 8,.j 9 0] .ret)))))))))
theorem NQ:FnOk T_ 108 Fw [.tmp 8,.tmp 9] 81:=fK_ Tryz.func108
def tB:VCode:=Q_ 4 [.K (cb false)] (.seq (C_ 6 9 [.m 0,.v,.m 1,.v,.b .neq] (Q_ 4 [.K (cb false)] .ret) .skip) (.seq (Q_ 5 [.n 0] (.block 0 (.loop (.seq (C_ 11 13 [.m 5,.m 0,.v,.b .lss] .skip (.exit 0)) (.seq (.block 1 (.seq (.region (D_ [.m 0,.m 5,.x 1,.l,.m 1,.m 5,.x 1,.l,.b .neq] 17) .calm [17,24]) (c_ 25 (Q_ 4 [.K (cb false)] .ret) .skip))) (X_ 15 16 [.m 5,.P 1,.a 5])))))) (Q_ 4 [.K (cb true)] .ret)))
theorem Cm:FnOk T_ 113 tB [.tmp 4] 26:=fK_ Tryz.func113
def tD:VCode:=Q_ 4 [.K (cb false)] (.seq (C_ 6 9 [.m 0,.v,.m 1,.v,.b .neq] (Q_ 4 [.K (cb false)] .ret) .skip) (.seq (Q_ 5 [.n 0] (.block 0 (.loop (.seq (C_ 11 13 [.m 5,.m 0,.v,.b .lss] .skip (.exit 0)) (.seq (.block 1 (.seq (.region (D_ [.m 0,.m 5,.x 2,.L 2,.m 1,.m 5,.x 2,.L 2,.g (.eqA true [.i,.i] (tm 20) (tm 24))] 17) .calm [17,24]) (c_ 25 (Q_ 4 [.K (cb false)] .ret) .skip))) (X_ 15 16 [.m 5,.P 1,.a 5])))))) (Q_ 4 [.K (cb true)] .ret)))
theorem Cn:FnOk T_ 114 tD [.tmp 4] 26:=fK_ Tryz.func114
def Co:VCode:=Q_ 2 [.K (.const .nils)] (Q_ 3 [.K (.const .nils)] (.seq (Q_ 4 [.n 0] (.block 0 (.loop (.seq (C_ 5 7 [.m 4,.m 0,.v,.b .lss] .skip (.exit 0)) (.seq (.block 1 (X_ 11 17 [.m 3,.m 0,.m 4,.x 2,.L 2,.g (.buildSlice 2 1 z_7 [(0,2,tm 15)]),.g (.append 268 2 16 (tm 11) (tm 16)),.a 3])) (X_ 9 10 [.m 4,.P 1,.a 4])))))) (R_ 18 18 [.m 3,.a 2] .ret)))
theorem Kx:FnOk T_ 115 Co [.tmp 2] 19:=fK_ Tryz.func115
def adE:VCode:=Q_ 2 [.K (cs [])] (.seq (C_ 3 3 [.m 0,.i .lss 0] (.seq (C_ 5 6 [.m 0,.i .quo 10,.E 0] (R_ 8 11 [.m 0,.g (.un .neg (tm 8)),.c1 183,.g (.bin .add (cs [45]) (tm 10)),.a 2] .ret) .skip) (R_ 12 19 [.m 0,.i .quo 10,.c1 126,.m 0,.i .rem 10,.g (.un .neg (tm 16)),.c1 183,.g (.bin .add (tm 14) (tm 18)),.a 2] .ret)) .skip) (.seq (C_ 20 20 [.m 0,.i .lss 10] (R_ 22 23 [.m 0,.c1 183,.a 2] .ret) .skip) (R_ 24 30 [.m 0,.i .quo 10,.c1 126,.m 0,.i .rem 10,.c1 183,.b .add,.a 2] .ret)))
theorem aeg:FnOk T_ 126 adE [.tmp 2] 31:=fK_ Tryz.func126
def Ip:VCode:=Q_ 8 [.n 0,.K (.const (.val .nili))] (V_ 13 19 [.m 0,.m 1,.m 2,.m 3,.g (.call 216 [tm 13,ci 5,tm 14,tm 15,tm 16]),.a 12,.e 12 0,.e 12 1,.M 10 18,.a 11] (R_ 20 22 [.m 10,.m 11,.g (.call 38 [tm 21,ci 0]),.M 8 20,.a 9] .ret))
theorem Qq:FnOk T_ 151 Ip [.tmp 8,.tmp 9] 23:=fK_ Tryz.func151
def aeh:VCode:=Q_ 2 [.K (cs [])] (R_ 3 7 [.m 0,.g (.convI .u8 (tm 3)),.g (.bin .add (cu 48) (tm 4)),.g (.buildSlice 1 1 (z_ [.u]) [(0,1,tm 5)]),.g (.convB (tm 6)),.a 2] .ret)
theorem afu:FnOk T_ 183 aeh [.tmp 2] 8:=fK_ Tryz.func183
def qg:VCode:=Q_ 2 [.K (cs [])] (.seq (C_ 3 7 [.m 0,.i .lss 0,.w,.m 0,.i .gtr 6,.O] (Q_ 2 [.K (cs [])] .ret) .skip) (R_ 9 12 [.m 0,.g (.bin .mul (ci 2) (tm 9)),.g (.subS (cs [77,79,84,85,87,69,84,72,70,82,83,65,83,85]) (some (tm 10)) none),.g (.subS (tm 11) none (some (ci 2))),.a 2] .ret))
theorem yD:FnOk T_ 205 qg [.tmp 2] 13:=fK_ Tryz.func205
def zh:VCode:=Q_ 10 [.n 0,.n 0] (Q_ 12 [.K (cb false)] (.cut (.seq (C_ 15 24 [.m 4,.z,.m 0,.g (.bin .neq (tm 17) (cs [])),.A,.z,.m 0,.g (.indexS (tm 21) (ci 0)),.g (.call 200 [cs [43,45],tm 22]),.i .geq 0,.A] (.region (D_ [.m 0,.g (.indexS (tm 26) (ci 0)),.U .eql 45,.m 0,.g (.subS (tm 29) (some (ci 1)) none),.M 12 28,.a 0] 26) .calm [26,30]) .skip) (.seq (C_ 31 42 [.m 0,.t [],.w,.m 0,.h,.m 1,.b .gtr,.O,.w,.m 0,.g (.call 282 [tm 40,cs [48,49,50,51,52,53,54,55,56,57]]),.g (.bin .neq (tm 41) (cs [])),.O] (Q_ 10 [.n 0,.n 4] .ret) .skip) (Q_ 13 [.n 0] (.cut (.seq (Q_ 14 [.n 0] (.block 0 (.loop (.seq (C_ 44 46 [.m 14,.m 0,.h,.b .lss] .skip (.exit 0)) (.seq (.block 1 (X_ 50 57 [.m 13,.g (.bin .mul (ci 10) (tm 50)),.m 0,.m 14,.y,.U .sub 48,.g (.convI .i64 (tm 55)),.g (.bin .add (tm 51) (tm 56)),.a 13])) (X_ 48 49 [.m 14,.P 1,.a 14])))))) (.seq (C_ 58 64 [.m 13,.m 2,.b .lss,.w,.m 13,.m 3,.b .gtr,.O] (Q_ 10 [.n 0,.n 8] .ret) .skip) (.cut (.seq (Q_ 66 [.m 12] (c_ 66 (X_ 67 68 [.m 13,.g (.un .neg (tm 67)),.a 13]) .skip)) (R_ 69 69 [.m 13,.a 10,.j 11 0] .ret)))))))))))
theorem Ir:FnOk T_ 216 zh [.tmp 10,.tmp 11] 70:=fK_ Tryz.func216
def oF:VCode:=Q_ 4 [.K (cs [])] (.seq (C_ 7 11 [.m 0,.t [],.w,.m 1,.t [],.O] (R_ 13 13 [.m 0,.a 4] .ret) .skip) (.seq (C_ 14 20 [.m 1,.h,.E 1,.z,.m 1,.g (.indexS (tm 18) (ci 0)),.U .lss 128,.A] (R_ 22 25 [.m 0,.m 1,.g (.indexS (tm 23) (ci 0)),.g (.call 289 [tm 22,tm 24]),.a 4] .ret) .skip) (.seq (V_ 27 30 [.m 1,.c1 290,.a 26,.e 26 0,.e 26 1,.Y 5 Ie,.T 256 5 29,.a 6] (Q_ 31 [.m 6] (c_ 31 (R_ 32 33 [.m 0,.g (.call 291 [tm 32,tm 5]),.a 4] .ret) .skip))) (R_ 34 36 [.m 0,.m 1,.c2 292,.a 4] .ret))))
theorem wJ:FnOk T_ 223 oF [.tmp 4] 37:=fK_ Tryz.func223
def oH:VCode:=Q_ 4 [.K (cs []),.K (cb false)] (R_ 6 10 [.m 0,.m 1,.c2 293,.e 8 0,.e 8 1,.M 4 9,.a 5] .ret)
theorem wK:FnOk T_ 224 oH [.tmp 4,.tmp 5] 11:=fK_ Tryz.func224
def Cq:VCode:=Q_ 8 [.K (.const .nils),.n 0,.n 0] (Q_ 11 [.K (.const .nils)] (R_ 17 18 [.m 0,.c1 296,.a 12] (Q_ 13 [.n 0] (.seq (Q_ 14 [.n 0] (.block 0 (.loop (.seq (C_ 19 21 [.m 14,.m 12,.v,.b .lss] .skip (.exit 0)) (.seq (.block 1 (.seq (C_ 25 25 [.m 14,.E 12] (G_ 8 [.M 27 13,.K (.const .nils),.n 20,.m 27] [27,27] .ret) .skip) (V_ 29 38 [.m 12,.m 14,.x 1,.l,.m 1,.m 2,.m 3,.g (.call 108 [tm 32,tm 33,tm 34,tm 35]),.a 28,.e 28 0,.e 28 1,.M 15 37,.a 16] (.seq (C_ 39 39 [.m 16,.N 0] (R_ 41 42 [.m 16,.m 13,.J 8 (.const .nils),.M 9 41,.a 10] .ret) .skip) (.seq (C_ 43 44 [.m 11,.m 15,.c2 297] (G_ 8 [.M 46 13,.K (.const .nils),.n 19,.m 46] [46,46] .ret) .skip) (R_ 47 50 [.m 11,.m 15,.g (.buildSlice 1 1 (z_ [.i]) [(0,1,tm 48)]),.g (.append 3 1 8 (tm 47) (tm 49)),.a 11] (X_ 51 58 [.m 13,.m 12,.m 14,.x 1,.l,.h,.P 1,.b .add,.a 13]))))))) (X_ 23 24 [.m 14,.P 1,.a 14])))))) (G_ 8 [.M 59 11,.m 59,.n 0,.n 0] [59,59] .ret)))))
theorem Ky:FnOk T_ 232 Cq [.tmp 8,.tmp 9,.tmp 10] 60:=fK_ Tryz.func232
def Cs:VCode:=Q_ 2 [.K (.const .nils),.n 0,.n 0] (Q_ 5 [.K (.const .nils)] (R_ 12 13 [.m 0,.c1 296,.a 6] (Q_ 7 [.n 0] (.seq (Q_ 8 [.n 0] (.block 0 (.loop (.seq (C_ 14 16 [.m 8,.m 6,.v,.b .lss] .skip (.exit 0)) (.seq (.block 1 (.seq (C_ 20 20 [.m 8,.E 12] (R_ 22 22 [.m 7,.J 2 (.const .nils),.j 3 20,.a 4] .ret) .skip) (V_ 24 30 [.m 6,.m 8,.x 1,.l,.c1 298,.a 23,.e 23 0,.e 23 1,.Y 9 z_7,.T 2 9 29,.a 10] (.seq (C_ 31 31 [.m 10,.N 0] (R_ 33 34 [.m 10,.m 7,.J 2 (.const .nils),.M 3 33,.a 4] .ret) .skip) (.seq (Q_ 11 [.n 0] (.block 2 (.loop (.seq (C_ 35 37 [.m 11,.m 5,.v,.b .lss] .skip (.exit 2)) (.seq (.block 3 (.seq (.region (D_ [.m 5,.m 11,.x 2,.L 2,.W 2 9,.g (.eqA false [.i,.i] (tm 44) (tm 45))] 41) .calm [41,45]) (c_ 46 (R_ 47 47 [.m 7,.J 2 (.const .nils),.j 3 19,.a 4] .ret) .skip))) (X_ 39 40 [.m 11,.P 1,.a 11])))))) (R_ 48 51 [.m 5,.W 2 9,.g (.buildSlice 2 1 z_7 [(0,2,tm 49)]),.g (.append 268 2 16 (tm 48) (tm 50)),.a 5] (X_ 52 59 [.m 7,.m 6,.m 8,.x 1,.l,.h,.P 1,.b .add,.a 7]))))))) (X_ 18 19 [.m 8,.P 1,.a 8])))))) (R_ 60 60 [.m 5,.a 2,.j 3 0,.j 4 0] .ret)))))
theorem Kz:FnOk T_ 233 Cs [.tmp 2,.tmp 3,.tmp 4] 61:=fK_ Tryz.func233
def vA:VCode:=Q_ 2 [.n 0] (.seq (Q_ 3 [.n 0] (.block 0 (.loop (.seq (C_ 4 4 [.m 3,.i .lss 7] .skip (.exit 0)) (.seq (.block 1 (C_ 8 14 [.m 0,.m 3,.g (.bin .mul (ci 2) (tm 9)),.m 3,.g (.bin .mul (ci 2) (tm 11)),.P 2,.g (.subS (cs [77,79,84,85,87,69,84,72,70,82,83,65,83,85]) (some (tm 10)) (some (tm 13))),.g (.bin .eql (tm 8) (tm 14))] (R_ 16 16 [.m 3,.a 2] .ret) .skip)) (X_ 6 7 [.m 3,.P 1,.a 3])))))) (Q_ 2 [.n (-1)] .ret))
theorem Ex:FnOk T_ 234 vA [.tmp 2] 17:=fK_ Tryz.func234
def mA:VCode:=Q_ 4 [.K (cb false)] (R_ 5 8 [.m 0,.m 1,.c2 313,.i .geq 0,.a 4] .ret)
theorem uE:FnOk T_ 264 mA [.tmp 4] 9:=fK_ Tryz.func264
def wL:VCode:=Q_ 4 [.K (cs [])] (.seq (C_ 7 11 [.m 0,.t [],.w,.m 1,.t [],.O] (R_ 13 13 [.m 0,.a 4] .ret) .skip) (.seq (C_ 14 20 [.m 1,.h,.E 1,.z,.m 1,.g (.indexS (tm 18) (ci 0)),.U .lss 128,.A] (.seq (.region (D_ [.m 0,.m 1,.g (.indexS (tm 23) (ci 0)),.g (.call 289 [tm 22,tm 24]),.m 1,.g (.indexS (tm 26) (ci 0)),.g (.call 324 [tm 25,tm 27]),.a 4] 22) (.drawn [(3,4),(3,5)] (wo [(3,[(0,2),(4,5)]),(6,[(0,5)])])) [22,28]) .ret) .skip) (.seq (V_ 30 33 [.m 1,.c1 290,.a 29,.e 29 0,.e 29 1,.Y 5 Ie,.T 256 5 32,.a 6] (Q_ 34 [.m 6] (c_ 34 (R_ 35 37 [.m 0,.g (.call 291 [tm 35,tm 5]),.g (.call 325 [tm 36,tm 5]),.a 4] .ret) .skip))) (R_ 38 42 [.m 0,.m 1,.c2 292,.m 1,.c2 326,.a 4] .ret))))
theorem Gs:FnOk T_ 282 wL [.tmp 4] 43:=fK_ Tryz.func282
def Fy:VCode:=Q_ 2 [.K (.const .nils),.K (.const (.val .nili))] (R_ 4 7 [.m 0,.g (.call 328 [tm 4,.func 329]),.e 5 0,.e 5 1,.M 2 6,.a 3] .ret)
theorem NR:FnOk T_ 285 Fy [.tmp 2,.tmp 3] 8:=fK_ Tryz.func285
def FA:VCode:=Q_ 5 [.X 1,.X 2,.X 3,.K (.const .nils),.K (.const (.val .nili))] (R_ 10 14 [.m 0,.g (.mkFunc 331 [tm 5,tm 6,tm 7]),.c2 330,.e 12 0,.e 12 1,.M 8 13,.a 9] .ret)
theorem NT:FnOk T_ 286 FA [.tmp 8,.tmp 9] 15:=fK_ Tryz.func286
def wN:VCode:=Q_ 2 [.n 0] (.seq (Q_ 3 [.m 0] (.block 0 (R_ 5 5 [.g (.bin .eql (tm 3) (cs [77,79])),.a 4] (c_ 4 (Q_ 2 [.n 0] .ret) (R_ 7 7 [.g (.bin .eql (tm 3) (cs [84,85])),.a 6] (c_ 6 (Q_ 2 [.n 1] .ret) (R_ 9 9 [.g (.bin .eql (tm 3) (cs [87,69])),.a 8] (c_ 8 (Q_ 2 [.n 2] .ret) (R_ 11 11 [.g (.bin .eql (tm 3) (cs [84,72])),.a 10] (c_ 10 (Q_ 2 [.n 3] .ret) (R_ 13 13 [.g (.bin .eql (tm 3) (cs [70,82])),.a 12] (c_ 12 (Q_ 2 [.n 4] .ret) (R_ 15 15 [.g (.bin .eql (tm 3) (cs [83,65])),.a 14] (c_ 14 (Q_ 2 [.n 5] .ret) (R_ 17 17 [.g (.bin .eql (tm 3) (cs [83,85])),.a 16] (c_ 16 (Q_ 2 [.n 6] .ret) .skip)))))))))))))))) (Q_ 2 [.n (-1)] .ret))
theorem Gt:FnOk T_ 287 wN [.tmp 2] 18:=fK_ Tryz.func287
def kg:VCode:=Q_ 4 [.K (cs [])] (.seq (.block 0 (.loop (.seq (C_ 5 6 [.m 0,.h,.i .gtr 0] .skip (.exit 0)) (.block 1 (.seq (C_ 8 14 [.m 1,.m 0,.m 0,.h,.i .sub 1,.y,.c2 332,.u] (.exit 0) .skip) (X_ 16 20 [.m 0,.m 0,.h,.i .sub 1,.g (.subS (tm 16) none (some (tm 19))),.a 0])))))) (R_ 21 21 [.m 0,.a 4] .ret))
theorem qO:FnOk T_ 291 kg [.tmp 4] 22:=fK_ Tryz.func291
def gh:VCode:=Q_ 4 [.K (cs []),.K (cb false)] (.seq (C_ 6 8 [.m 0,.m 1,.c2 335,.u] (R_ 10 10 [.m 0,.a 4,.J 5 (cb false)] .ret) .skip) (R_ 11 17 [.m 0,.m 0,.h,.m 1,.h,.b .sub,.g (.subS (tm 11) none (some (tm 16))),.a 4,.J 5 (cb true)] .ret))
theorem lk:FnOk T_ 293 gh [.tmp 4,.tmp 5] 18:=fK_ Tryz.func293
def zj:VCode:=Q_ 2 [.K (.const .nils)] (Q_ 3 [.K (.const .nils)] (Q_ 4 [.n 0] (.seq (Q_ 5 [.n 0] (.block 0 (.loop (.seq (C_ 6 8 [.m 5,.m 0,.h,.b .lss] .skip (.exit 0)) (.seq (.block 1 (C_ 12 14 [.m 0,.m 5,.y,.U .eql 44] (R_ 16 22 [.m 3,.m 0,.m 4,.m 5,.g (.subS (tm 17) (some (tm 18)) (some (tm 19))),.g (.buildSlice 1 1 z_9 [(0,1,tm 20)]),.g (.append 9 1 16 (tm 16) (tm 21)),.a 3] (X_ 23 24 [.m 5,.P 1,.a 4])) .skip)) (X_ 10 11 [.m 5,.P 1,.a 5])))))) (R_ 25 30 [.m 3,.m 0,.m 4,.g (.subS (tm 26) (some (tm 27)) none),.g (.buildSlice 1 1 z_9 [(0,1,tm 28)]),.g (.append 9 1 16 (tm 25) (tm 29)),.a 2] .ret))))
theorem Is:FnOk T_ 296 zj [.tmp 2] 31:=fK_ Tryz.func296
def FC:VCode:=Q_ 4 [.K (cb false)] (.seq (Q_ 5 [.n 0] (.block 0 (.loop (.seq (C_ 6 8 [.m 5,.m 0,.v,.b .lss] .skip (.exit 0)) (.seq (.block 1 (C_ 12 16 [.m 0,.m 5,.x 1,.l,.m 1,.b .eql] (Q_ 4 [.K (cb true)] .ret) .skip)) (X_ 10 11 [.m 5,.P 1,.a 5])))))) (Q_ 4 [.K (cb false)] .ret))
theorem NU:FnOk T_ 297 FC [.tmp 4] 18:=fK_ Tryz.func297
def nT:VCode:=Q_ 2 [.Z z_7,.n 0] (.seq (C_ 9 19 [.m 0,.h,.i .lss 2,.w,.m 0,.m 0,.h,.i .sub 2,.g (.subS (tm 13) (some (tm 16)) none),.c1 234,.i .lss 0,.O] (R_ 21 21 [.D z_7,.s 2 2,.j 3 4] .ret) .skip) (R_ 22 27 [.m 0,.m 0,.h,.i .sub 2,.g (.subS (tm 22) (some (tm 25)) none),.c1 234,.a 4] (R_ 28 32 [.m 0,.m 0,.h,.i .sub 2,.g (.subS (tm 28) none (some (tm 31))),.a 5] (.seq (C_ 33 33 [.m 5,.t []] (R_ 35 36 [.m 4,.g (.build z_7 [(0,1,ci 0),(1,1,tm 35)]),.s 2 2,.j 3 0] .ret) .skip) (R_ 37 38 [.m 5,.h,.a 6] (.cut (.seq (C_ 39 45 [.m 5,.g (.indexS (tm 39) (ci 0)),.U .eql 43,.w,.m 5,.g (.indexS (tm 43) (ci 0)),.U .eql 45,.O] (X_ 47 48 [.m 6,.i .sub 1,.a 6]) .skip) (V_ 50 53 [.m 5,.g (.call 108 [tm 50,ci 1,ci 53,cb true]),.a 49,.e 49 0,.e 49 1,.M 7 52,.a 8] (.seq (C_ 54 58 [.m 8,.E 4,.w,.m 6,.i .gtr 2,.O] (R_ 60 60 [.D z_7,.s 2 2,.j 3 4] .ret) .skip) (R_ 61 64 [.m 7,.m 4,.g (.build z_7 [(0,1,tm 61),(1,1,tm 62)]),.m 8,.T 2 2 63,.a 3] .ret))))))))))
theorem pc:FnOk T_ 298 nT [.cell 2 (some 2),.tmp 3] 65:=fK_ Tryz.func298
def ki:VCode:=Q_ 3 [.X 1,.K (cb false)] (R_ 5 8 [.m 0,.W 2 3,.c2 338,.i .geq 0,.a 4] .ret)
theorem qP:FnOk T_ 306 ki [.tmp 4] 9:=fK_ Tryz.func306
def qj:VCode:=Q_ 4 [.n 0] (.seq (G_ 6 [.m 0,.v,.n 0] [6,6] (.block 0 (.loop (Q_ 9 [.g (.bin .lss (tm 8) (tm 7))] (.seq (c_ 9 .skip (.exit 0)) (.seq (.block 1 (R_ 10 10 [.m 8,.a 5] (C_ 11 15 [.m 1,.m 0,.m 5,.x 1,.l,.b .eql] (R_ 17 17 [.m 5,.a 4] .ret) .skip))) (X_ 18 18 [.g (.bin .add (tm 8) (ci 1)),.a 8]))))))) (Q_ 4 [.n (-1)] .ret))
theorem yE:FnOk T_ 313 qj [.tmp 4] 19:=fK_ Tryz.func313
def kY:VCode:=Q_ 4 [.K (cs [])] (.seq (.block 0 (.loop (.seq (C_ 5 6 [.m 0,.h,.i .gtr 0] .skip (.exit 0)) (.block 1 (.seq (C_ 8 11 [.m 1,.m 0,.g (.indexS (tm 9) (ci 0)),.g (.call 332 [tm 8,tm 10]),.u] (.exit 0) .skip) (X_ 13 14 [.m 0,.g (.subS (tm 13) (some (ci 1)) none),.a 0])))))) (R_ 15 15 [.m 0,.a 4] .ret))
theorem rZ:FnOk T_ 325 kY [.tmp 4] 16:=fK_ Tryz.func325
def jk:VCode:=Q_ 4 [.K (.const .nils),.K (.const (.val .nili))] (Q_ 6 [.K (.const .nils)] (Q_ 7 [.n 0] (.seq (G_ 12 [.m 0,.g (.call 209 [tm 12,cs [44]]),.v,.n 0] [12,12] (.block 0 (.loop (Q_ 16 [.g (.bin .lss (tm 15) (tm 14))] (.seq (c_ 16 .skip (.exit 0)) (.seq (.block 1 (R_ 17 18 [.g (.indexAddr 1 (tm 13) (tm 15)),.l,.a 9] (.seq (C_ 19 20 [.m 6,.v,.E 12] (R_ 22 23 [.m 7,.g (.call 38 [ci 20,tm 22]),.J 4 (.const .nils),.a 5] .ret) .skip) (V_ 25 29 [.m 1,.m 9,.g (.callV (tm 25) [tm 26]),.a 24,.e 24 0,.e 24 1,.Y 10 z_7,.T 2 10 28,.a 11] (.seq (C_ 30 35 [.m 11,.E 0,.z,.m 6,.W 2 10,.c2 306,.A] (Y_ 11 [.n 19]) .skip) (.seq (C_ 37 37 [.m 11,.N 0] (R_ 39 41 [.m 11,.m 7,.c2 38,.J 4 (.const .nils),.a 5] .ret) .skip) (R_ 42 45 [.m 6,.W 2 10,.g (.buildSlice 2 1 z_7 [(0,2,tm 43)]),.g (.append 269 2 16 (tm 42) (tm 44)),.a 6] (X_ 46 50 [.m 7,.m 9,.h,.P 1,.b .add,.a 7])))))))) (X_ 51 51 [.g (.bin .add (tm 15) (ci 1)),.a 15]))))))) (R_ 52 52 [.m 6,.a 4,.J 5 (.const (.val .nili))] .ret))))
theorem pd:FnOk T_ 328 jk [.tmp 4,.tmp 5] 53:=fK_ Tryz.func328
def It:VCode:=Q_ 2 [.Z z_7,.n 0] (R_ 8 10 [.m 0,.h,.i .sub 2,.a 4] (.seq (C_ 11 11 [.m 4,.i .lss 0] (R_ 13 13 [.D z_7,.s 2 2,.j 3 4] .ret) .skip) (R_ 14 17 [.m 0,.m 4,.g (.subS (tm 14) (some (tm 15)) none),.c1 287,.a 5] (.seq (C_ 18 18 [.m 5,.i .lss 0] (R_ 20 20 [.D z_7,.s 2 2,.j 3 4] .ret) .skip) (.seq (C_ 21 21 [.m 4,.E 0] (R_ 23 24 [.m 5,.g (.build z_7 [(1,1,tm 23)]),.s 2 2,.j 3 0] .ret) .skip) (V_ 26 31 [.m 0,.m 4,.g (.subS (tm 26) none (some (tm 27))),.g (.call 216 [tm 28,ci 2,ci 1,ci 53,cb true]),.a 25,.e 25 0,.e 25 1,.M 6 30,.a 7] (.seq (C_ 32 32 [.m 7,.N 0] (R_ 34 35 [.D z_7,.m 7,.T 2 2 34,.a 3] .ret) .skip) (R_ 36 38 [.m 6,.m 5,.g (.build z_7 [(0,1,tm 36),(1,1,tm 37)]),.s 2 2,.j 3 0] .ret))))))))
theorem Qr:FnOk T_ 329 It [.cell 2 (some 2),.tmp 3] 39:=fK_ Tryz.func329
def la:VCode:=Q_ 4 [.K (.const .nils),.K (.const (.val .nili))] (Q_ 6 [.K (.const .nils)] (Q_ 7 [.n 0] (.seq (G_ 12 [.m 0,.g (.call 209 [tm 12,cs [44]]),.v,.n 0] [12,12] (.block 0 (.loop (Q_ 16 [.g (.bin .lss (tm 15) (tm 14))] (.seq (c_ 16 .skip (.exit 0)) (.seq (.block 1 (R_ 17 18 [.g (.indexAddr 1 (tm 13) (tm 15)),.l,.a 9] (.seq (C_ 19 20 [.m 6,.v,.E 12] (R_ 22 23 [.m 7,.g (.call 38 [ci 20,tm 22]),.J 4 (.const .nils),.a 5] .ret) .skip) (V_ 25 29 [.m 1,.m 9,.g (.callV (tm 25) [tm 26]),.a 24,.e 24 0,.e 24 1,.M 10 28,.a 11] (.seq (C_ 30 35 [.m 11,.E 0,.z,.m 6,.m 10,.c2 264,.A] (Y_ 11 [.n 19]) .skip) (.seq (C_ 37 37 [.m 11,.N 0] (R_ 39 41 [.m 11,.m 7,.c2 38,.J 4 (.const .nils),.a 5] .ret) .skip) (R_ 42 45 [.m 6,.m 10,.g (.buildSlice 1 1 (z_ [.i]) [(0,1,tm 43)]),.g (.append 3 1 8 (tm 42) (tm 44)),.a 6] (X_ 46 50 [.m 7,.m 9,.h,.P 1,.b .add,.a 7])))))))) (X_ 51 51 [.g (.bin .add (tm 15) (ci 1)),.a 15]))))))) (R_ 52 52 [.m 6,.a 4,.J 5 (.const (.val .nili))] .ret))))
theorem sa:FnOk T_ 330 la [.tmp 4,.tmp 5] 53:=fK_ Tryz.func330
def zl:VCode:=Q_ 5 [.n 0,.n 0] (R_ 7 13 [.m 0,.g (.load none (tm 1)),.g (.load none (tm 2)),.g (.load none (tm 3)),.g (.call 216 [tm 7,ci 5,tm 8,tm 9,tm 10]),.e 11 0,.e 11 1,.M 5 12,.a 6] .ret)
theorem Iv:FnOk T_ 331 zl [.tmp 5,.tmp 6] 14:=fK_ Tryz.func331
def gj:VCode:=Q_ 4 [.K (cb false)] (R_ 5 20 [.m 0,.h,.m 1,.h,.b .geq,.z,.m 0,.m 0,.h,.m 1,.h,.b .sub,.g (.subS (tm 11) (some (tm 16)) none),.m 1,.b .eql,.A,.a 4] .ret)
theorem ll:FnOk T_ 335 gj [.tmp 4] 21:=fK_ Tryz.func335
def mC:VCode:=Q_ 3 [.X 1,.n 0] (.seq (G_ 6 [.m 0,.v,.n 0] [6,6] (.block 0 (.loop (Q_ 9 [.g (.bin .lss (tm 8) (tm 7))] (.seq (c_ 9 .skip (.exit 0)) (.seq (.block 1 (R_ 10 10 [.m 8,.a 5] (.seq (.region (D_ [.W 2 3,.m 0,.m 5,.x 2,.L 2,.g (.eqA false [.i,.i] (tm 11) (tm 15))] 11) .calm [11,15]) (c_ 16 (R_ 17 17 [.m 5,.a 4] .ret) .skip)))) (X_ 18 18 [.g (.bin .add (tm 8) (ci 1)),.a 8]))))))) (Q_ 4 [.n (-1)] .ret))
theorem uF:FnOk T_ 338 mC [.tmp 4] 19:=fK_ Tryz.func338
end Go.Vs.YtcjeehebikeghaaGreatDoor
