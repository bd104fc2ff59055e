/- A part of a proof. No conditions. -/
import Derived.Test.YtcjeehebikeghaaGreatDoorRA
set_option linter.unusedVariables false
set_option linter.unusedSimpArgs false
set_option maxRecDepth 100000
set_option maxHeartbeats 8000000
namespace Go.Vs.YtcjeehebikeghaaGreatDoor
open Go.Proofs
def Lt:List Int:=[0,31,59,90,120,151,181,212,243,273,304,334,365]
def G2:List (Nat×List IV):=(1,Lt.map (.int .i64 ·))::G
theorem XQ{k:Nat}{args:List IV}{r:Res}(h:zk G T_ k args r):zk G2 T_ k args r:=
 ⟨h.1,fun w S vs hS hr hg=>h.2 w S vs hS hr (fun p hp=>hg p (List.mem_cons_of_mem _ hp))⟩
theorem up{k:Nat}{args:List IV}{v:IV}(h:Fn G T_ k args v):Fn G2 T_ k args v:=XQ h
theorem X6{k:Nat}{c:MC}(h:mP G T_ k c):mP G2 T_ k c:=
 ⟨h.1,fun w S μ β vs hS hg hr h1 h2 h3=>h.2 w S μ β vs hS (fun p hp=>hg p (List.mem_cons_of_mem _ hp)) hr h1 h2 h3⟩
theorem QX{m:Nat}(h1:1<=m)(h2:m<=13):∃r,(Lt.map (IV.int .i64 ·)).drop (m-1)=.int .i64 (Lt.getD (m-1) 0)::r:=by
 have:m=1\/m=2\/m=3\/m=4\/m=5\/m=6\/m=7\/m=8\/m=9\/m=10\/m=11\/m=12\/m=13:=by omega
 rcases this with rfl|rfl|rfl|rfl|rfl|rfl|rfl|rfl|rfl|rfl|rfl|rfl|rfl<;>exact⟨_,rfl⟩
def tJ:VCode:=Q_ 1 [.X 0,.K (cs []),.n 0] (.seq (R_ 12 13 [.W 2 1,.c1 120,.a 4] (C_ 14 14 [.m 4,.N 0] (R_ 16 16 [.m 4,.J 2 (cs []),.a 3] .ret) .skip)) (V_ 18 21 [.W 2 1,.c1 121,.a 17,.e 17 0,.e 17 1,.M 5 20,.a 6] (V_ 23 28 [.m 5,.c1 122,.a 22,.e 22 0,.e 22 1,.e 22 2,.e 22 3,.M 7 25,.M 8 26,.M 9 27,.a 10] (.seq (C_ 29 29 [.m 10,.N 0] (R_ 31 31 [.m 10,.J 2 (cs []),.a 3] .ret) .skip) (R_ 32 37 [.m 7,.g (.callM 123 [.const .nils,tm 32,ci 4]),.m 8,.g (.callM 123 [tm 33,tm 34,ci 2]),.m 9,.g (.callM 123 [tm 35,tm 36,ci 2]),.a 11] (.seq (C_ 38 39 [.F 0 1,.l,.U .neq 1] (R_ 41 43 [.m 11,.g (.buildSlice 1 1 (z_ [.u]) [(0,1,cu 84)]),.p 5 1 1,.a 11] (X_ 44 54 [.m 11,.m 6,.i .quo 3600,.g (.callM 123 [tm 44,tm 46,ci 2]),.m 6,.i .quo 60,.i .rem 60,.g (.callM 123 [tm 47,tm 50,ci 2]),.m 6,.i .rem 60,.g (.callM 123 [tm 51,tm 53,ci 2]),.a 11])) .skip) (.seq (C_ 55 56 [.F 0 1,.l,.U .eql 3] (X_ 58 60 [.m 11,.g (.buildSlice 1 1 (z_ [.u]) [(0,1,cu 90)]),.p 5 1 1,.a 11]) .skip) (R_ 61 62 [.m 11,.g (.convB (tm 61)),.a 2,.j 3 0] .ret))))))))
theorem B9:FnOk T_ 62 tJ [.tmp 2,.tmp 3] 63:=fK_ Tryz.func62
def AM:VCode:=Q_ 4 [.Z z_4,.n 0] (.seq (R_ 7 9 [.m 0,.m 1,.c2 132,.a 6] (C_ 10 10 [.m 6,.N 0] (R_ 12 13 [.D z_4,.m 6,.T 2 4 12,.a 5] .ret) .skip)) (.seq (C_ 14 14 [.m 0,.U .eql 1] (X_ 16 19 [.m 1,.m 1,.i .rem 86400,.b .sub,.a 1]) .skip) (R_ 20 22 [.m 0,.m 1,.g (.build z_4 [(0,1,tm 20),(1,1,tm 21)]),.s 2 4,.j 5 0] .ret)))
theorem HJ:FnOk T_ 85 AM [.cell 4 (some 2),.tmp 5] 23:=fK_ Tryz.func85
def tL:VCode:=Q_ 1 [.X 0,.n 0] (V_ 6 12 [.F 0 1,.l,.F 1 1,.l,.c2 85,.a 5,.e 5 0,.e 5 1,.Y 3 z_4,.T 2 3 11,.a 4] (.seq (C_ 13 13 [.m 4,.N 0] (R_ 15 15 [.m 4,.a 2] .ret) .skip) (.seq (C_ 16 17 [.W 2 3,.W 2 1,.g (.eqA true [.i,.i] (tm 16) (tm 17))] (Q_ 2 [.n 2] .ret) .skip) (Q_ 2 [.n 0] .ret))))
theorem Ba:FnOk T_ 120 tL [.tmp 2] 19:=fK_ Tryz.func120
def tN:VCode:=Q_ 1 [.X 0,.n 0,.n 0] (.seq (C_ 4 5 [.W 2 1,.c1 120,.N 0] (Q_ 2 [.n 0,.n 0] .ret) .skip) (.seq (.region (D_ [.F 1 1,.l,.i .quo 86400,.F 1 1,.l,.i .rem 86400,.M 2 9,.a 3] 7) .calm [7,12]) .ret))
theorem Bb:FnOk T_ 121 tN [.tmp 2,.tmp 3] 13:=fK_ Tryz.func121
def yi:VCode:=Q_ 2 [.n 0,.n 0,.n 0,.n 0] (.seq (C_ 9 10 [.m 0,.c1 178,.u] (Q_ 2 [.n 0,.n 0,.n 0,.n 8] .ret) .skip) (V_ 13 16 [.m 0,.c1 179,.a 12,.e 12 0,.e 12 1,.M 6 15,.a 7] (R_ 17 19 [.m 7,.i .quo 32,.P 1,.a 8] (.seq (C_ 20 24 [.m 7,.m 6,.m 8,.P 1,.c2 180,.b .geq] (X_ 26 27 [.m 8,.P 1,.a 8]) .skip) (R_ 28 35 [.m 6,.m 8,.m 7,.m 6,.m 8,.c2 180,.b .sub,.P 1,.M 2 28,.M 3 29,.a 4,.j 5 0] .ret)))))
theorem EQ:FnOk T_ 122 yi [.tmp 2,.tmp 3,.tmp 4,.tmp 5] 36:=fK_ Tryz.func122
def ry:VCode:=.cut (Q_ 6 [.K (.const .nils)] (R_ 9 10 [.m 0,.v,.a 7] (R_ 11 14 [.m 0,.m 2,.g (.subS (cs [48,48,48,48]) none (some (tm 12))),.g (.appendS 5 1 (tm 11) (tm 13)),.a 0] (.seq (R_ 15 18 [.m 7,.m 2,.b .add,.i .sub 1,.a 8] (.block 0 (.loop (.seq (C_ 19 20 [.m 8,.m 7,.b .geq] .skip (.exit 0)) (.seq (.block 1 (R_ 24 30 [.m 0,.m 8,.m 1,.i .rem 10,.g (.convI .u8 (tm 27)),.g (.bin .add (cu 48) (tm 28)),.g (.indexAddr 1 (tm 24) (tm 25)),.T 1 30 29] (X_ 31 32 [.m 1,.i .quo 10,.a 1]))) (X_ 22 23 [.m 8,.i .sub 1,.a 8])))))) (R_ 33 33 [.m 0,.a 6] .ret)))))
theorem vM:FnOk T_ 123 ry [.tmp 6] 34:=fK_ Tryz.func123
def tP:VCode:=Q_ 4 [.n 0] (.seq (C_ 5 9 [.m 0,.U .eql 0,.w,.m 0,.U .gtr 3,.O] (Q_ 4 [.n 11] .ret) .skip) (.seq (C_ 11 15 [.m 1,.i .lss 0,.w,.m 1,.i .gtr 315537897599,.O] (Q_ 4 [.n 8] .ret) .skip) (Q_ 4 [.n 0] .ret)))
theorem Bc:FnOk T_ 132 tP [.tmp 4] 17:=fK_ Tryz.func132
def vN:VCode:=Q_ 2 [.K (cb false)] (R_ 3 8 [.m 0,.i .geq 0,.z,.m 0,.i .leq 3652058,.A,.a 2] .ret)
theorem Dp:FnOk T_ 178 vN [.tmp 2] 9:=fK_ Tryz.func178
def vP:VCode:=Q_ 2 [.n 0,.n 0] (R_ 8 11 [.m 0,.i .quo 146097,.i .mul 400,.g (.bin .add (ci 1) (tm 10)),.a 4] (R_ 12 13 [.m 0,.i .rem 146097,.a 0] (R_ 14 16 [.m 0,.i .quo 36524,.g (.minI (tm 15) (ci 3)),.a 5] (R_ 17 20 [.m 0,.m 5,.i .mul 36524,.b .sub,.a 0] (R_ 21 22 [.m 0,.i .quo 1461,.a 6] (R_ 23 24 [.m 0,.i .rem 1461,.a 0] (R_ 25 27 [.m 0,.i .quo 365,.g (.minI (tm 26) (ci 3)),.a 7] (R_ 28 40 [.m 4,.m 5,.g (.bin .mul (ci 100) (tm 29)),.g (.bin .add (tm 28) (tm 30)),.m 6,.g (.bin .mul (ci 4) (tm 32)),.g (.bin .add (tm 31) (tm 33)),.m 7,.b .add,.m 0,.m 7,.i .mul 365,.b .sub,.M 2 36,.a 3] .ret))))))))
theorem Dq:FnOk T_ 179 vP [.tmp 2,.tmp 3] 41:=fK_ Tryz.func179
def vR:VCode:=Q_ 4 [.n 0] (R_ 6 9 [.m 1,.i .sub 1,.g (.indexArr 13 1 (.glob 1) (tm 7)),.l,.a 5] (.seq (C_ 10 14 [.m 1,.i .gtr 2,.z,.m 0,.c1 241,.A] (X_ 16 17 [.m 5,.P 1,.a 5]) .skip) (R_ 18 18 [.m 5,.a 4] .ret)))
theorem Dr:FnOk T_ 180 vR [.tmp 4] 19:=fK_ Tryz.func180
def tR:VCode:=Q_ 2 [.Z z_4,.n 0] (V_ 13 18 [.m 0,.c1 275,.a 12,.e 12 0,.e 12 1,.e 12 2,.e 12 3,.M 4 15,.M 5 16,.M 6 17,.a 7] (.seq (C_ 19 19 [.m 7,.u] (R_ 21 21 [.D z_4,.s 2 2,.j 3 4] .ret) .skip) (V_ 23 27 [.m 5,.g (.buildSlice 1 3 (z_ [.i]) [(0,1,ci 4),(1,1,ci 2),(2,1,ci 2)]),.c2 276,.a 22,.e 22 0,.e 22 1,.M 8 26,.a 7] (.seq (C_ 28 28 [.m 7,.u] (R_ 30 30 [.D z_4,.s 2 2,.j 3 4] .ret) .skip) (V_ 32 36 [.m 6,.g (.buildSlice 1 3 (z_ [.i]) [(0,1,ci 2),(1,1,ci 2),(2,1,ci 2)]),.c2 276,.a 31,.e 31 0,.e 31 1,.M 9 35,.a 7] (.seq (C_ 37 37 [.m 7,.u] (R_ 39 39 [.D z_4,.s 2 2,.j 3 4] .ret) .skip) (.seq (.region (D_ [.m 8,.g (.indexAddr 1 (tm 41) (ci 0)),.l,.m 8,.g (.indexAddr 1 (tm 44) (ci 1)),.l,.m 8,.g (.indexAddr 1 (tm 47) (ci 2)),.l,.g (.call 260 [tm 43,tm 46,tm 49]),.a 40,.e 40 0,.e 40 1,.M 10 51,.a 11] 41) (.drawn [] (Co [(9,[(0,8)])])) [40,52]) (.seq (C_ 53 71 [.m 11,.N 0,.w,.m 9,.g (.indexAddr 1 (tm 56) (ci 0)),.l,.i .gtr 23,.O,.w,.m 9,.g (.indexAddr 1 (tm 62) (ci 1)),.l,.i .gtr 59,.O,.w,.m 9,.g (.indexAddr 1 (tm 68) (ci 2)),.l,.i .gtr 59,.O] (R_ 73 73 [.D z_4,.s 2 2,.j 3 8] .ret) .skip) (.seq (.region (D_ [.m 4,.m 10,.i .mul 86400,.m 9,.g (.indexAddr 1 (tm 77) (ci 0)),.l,.i .mul 60,.m 9,.g (.indexAddr 1 (tm 81) (ci 1)),.l,.g (.bin .add (tm 80) (tm 83)),.i .mul 60,.g (.bin .add (tm 76) (tm 85)),.m 9,.g (.indexAddr 1 (tm 87) (ci 2)),.l,.g (.bin .add (tm 86) (tm 89)),.g (.build z_4 [(0,1,tm 74),(1,1,tm 90)]),.s 2 2,.j 3 0] 74) .calm [74,91]) .ret)))))))))
theorem Bd:FnOk T_ 211 tR [.cell 2 (some 2),.tmp 3] 92:=fK_ Tryz.func211
def yk:VCode:=Q_ 2 [.K (cb false)] (R_ 3 19 [.m 0,.c1 299,.z,.m 0,.i .rem 4,.E 0,.A,.z,.m 0,.i .rem 100,.N 0,.w,.m 0,.i .rem 400,.E 0,.O,.A,.a 2] .ret)
theorem ER:FnOk T_ 241 yk [.tmp 2] 20:=fK_ Tryz.func241
def AO:VCode:=Q_ 4 [.n 0] (.seq (C_ 5 14 [.m 0,.c1 299,.u,.w,.m 1,.i .lss 1,.O,.w,.m 1,.i .gtr 12,.O] (Q_ 4 [.n 0] .ret) .skip) (R_ 16 23 [.m 0,.m 1,.P 1,.c2 180,.m 0,.m 1,.c2 180,.b .sub,.a 4] .ret))
theorem HK:FnOk T_ 259 AO [.tmp 4] 24:=fK_ Tryz.func259
def AQ:VCode:=Q_ 6 [.n 0,.n 0] (.seq (C_ 9 16 [.m 2,.i .lss 1,.w,.m 2,.m 0,.m 1,.c2 259,.b .gtr,.O] (Q_ 6 [.n 0,.n 8] .ret) .skip) (R_ 18 19 [.m 0,.i .sub 1,.a 8] (R_ 20 37 [.m 8,.i .mul 365,.m 8,.i .quo 4,.b .add,.m 8,.i .quo 100,.b .sub,.m 8,.i .quo 400,.b .add,.m 0,.m 1,.c2 180,.b .add,.m 2,.b .add,.i .sub 1,.a 6,.j 7 0] .ret)))
theorem HL:FnOk T_ 260 AQ [.tmp 6,.tmp 7] 38:=fK_ Tryz.func260
def vT:VCode:=Q_ 2 [.K (cu 0),.K (cs []),.K (cs []),.K (cb false)] (.seq (.block 0 (R_ 7 9 [.m 0,.h,.E 8,.a 6] (c_ 6 (G_ 2 [.M 10 0,.K (cu 1),.m 10,.K (cs [48,48,48,48,48,48]),.K (cb true)] [10,10] .ret) (R_ 12 19 [.m 0,.h,.E 15,.z,.m 0,.g (.indexS (tm 16) (ci 8)),.U .eql 84,.A,.a 11] (c_ 11 (.seq (.region (D_ [.m 0,.g (.subS (tm 20) none (some (ci 8))),.m 0,.g (.subS (tm 22) (some (ci 9)) none),.J 2 (cu 2),.M 3 21,.a 4,.J 5 (cb true)] 20) .calm [20,23]) .ret) (R_ 25 37 [.m 0,.h,.E 16,.z,.m 0,.g (.indexS (tm 29) (ci 8)),.U .eql 84,.A,.z,.m 0,.g (.indexS (tm 34) (ci 15)),.U .eql 90,.A,.a 24] (c_ 24 (.seq (.region (D_ [.m 0,.g (.subS (tm 38) none (some (ci 8))),.m 0,.g (.subS (tm 40) (some (ci 9)) (some (ci 15))),.J 2 (cu 3),.M 3 39,.a 4,.J 5 (cb true)] 38) .calm [38,41]) .ret) .skip))))))) (Q_ 2 [.K (cu 0),.K (cs []),.K (cs []),.K (cb false)] .ret))
theorem Ds:FnOk T_ 275 vT [.tmp 2,.tmp 3,.tmp 4,.tmp 5] 42:=fK_ Tryz.func275
def rY:VCode:=Q_ 4 [.K (.const .nils),.K (cb false)] (Q_ 6 [.K (.const .nils)] (.seq (Q_ 10 [.m 1,.v,.n 0] (.block 0 (.loop (Q_ 13 [.g (.bin .lss (tm 12) (tm 11))] (.seq (c_ 13 .skip (.exit 0)) (.seq (.block 1 (R_ 14 15 [.g (.indexAddr 1 (tm 10) (tm 12)),.l,.a 8] (Q_ 9 [.n 0] (.seq (.block 2 (.loop (.seq (C_ 16 16 [.m 8,.i .gtr 0] .skip (.exit 2)) (.seq (.block 3 (.seq (C_ 20 30 [.m 0,.t [],.w,.m 0,.g (.indexS (tm 23) (ci 0)),.U .lss 48,.O,.w,.m 0,.g (.indexS (tm 28) (ci 0)),.U .gtr 57,.O] (Q_ 4 [.K (.const .nils),.K (cb false)] .ret) .skip) (.region (D_ [.m 9,.i .mul 10,.m 0,.g (.indexS (tm 34) (ci 0)),.U .sub 48,.g (.convI .i64 (tm 36)),.g (.bin .add (tm 33) (tm 37)),.m 0,.g (.subS (tm 39) (some (ci 1)) none),.M 9 38,.a 0] 32) .calm [32,40]))) (X_ 18 19 [.m 8,.i .sub 1,.a 8]))))) (X_ 41 44 [.m 6,.m 9,.g (.buildSlice 1 1 (z_ [.i]) [(0,1,tm 42)]),.g (.append 3 1 8 (tm 41) (tm 43)),.a 6]))))) (X_ 45 45 [.g (.bin .add (tm 12) (ci 1)),.a 12]))))))) (R_ 46 48 [.m 6,.m 0,.t [],.M 4 46,.a 5] .ret)))
theorem zR:FnOk T_ 276 rY [.tmp 4,.tmp 5] 49:=fK_ Tryz.func276
def tT:VCode:=Q_ 2 [.K (cb false)] (R_ 3 8 [.m 0,.i .geq 1,.z,.m 0,.i .leq 9999,.A,.a 2] .ret)
theorem Be:FnOk T_ 299 tT [.tmp 2] 9:=fK_ Tryz.func299
end Go.Vs.YtcjeehebikeghaaGreatDoor
namespace Go.Vs.YtcjeehebikeghaaGreatDoor.Rc
open Go.Proofs Go.Vs.Cv
def yr(y:Nat):Bool:=decide (1<=y/\y<=9999)
theorem Lu{y:Nat}(h:1<=y/\y<=9999):yr y=true:=by simp[yr];omega
theorem QY{y:Nat}(h:¬(1<=y/\y<=9999)):yr y=false:=by simp[yr];omega
theorem Gi(y:Nat)(h:y<1000000):Fn G2 T_ 299 [.int .i64 y] (.bool (yr y)):=by
 refine ag hm Be (by simp) ?_;simp[tT];by_cases h1:1<=y
 ·by_cases h2:y<=9999
  ·rw[Lu ⟨h1,h2⟩];simp(disch:=omega)[wl];omega
  ·rw[QY (by omega)];simp(disch:=omega)[wl];omega
 ·rw[QY (by omega)];simp(disch:=omega)[wl]
theorem WG(y k:Nat)(hk:0<k):(y:Int).tmod (k:Int)=((y%k:Nat):Int):=by
 rw[Int.tmod_eq_emod_of_nonneg (by omega)];exact(Int.natCast_emod y k).symm
theorem Ur(y k:Nat)(hk:0<k):(y:Int).tdiv (k:Int)=((y/k:Nat):Int):=by
 rw[Int.tdiv_eq_ediv_of_nonneg (by omega)];exact(Int.natCast_ediv y k).symm
theorem Tk(y:Nat)(h:y<1000000):Fn G2 T_ 241 [.int .i64 y] (.bool (yr y&&tA y)):=by
 refine ag hm ER (by simp) ?_;have hY:=Gi y h;have e1:(y:Int).tmod 4=((y%4:Nat):Int):=WG y 4 (by omega);have e2:(y:Int).tmod 100=((y%100:Nat):Int):=WG y 100 (by omega);have e3:(y:Int).tmod 400=((y%400:Nat):Int):=WG y 400 (by omega);obtain⟨a,ha⟩:∃a,y%4=a:=⟨_,rfl⟩;obtain⟨b,hb⟩:∃b,y%100=b:=⟨_,rfl⟩;obtain⟨c,hc⟩:∃c,y%400=c:=⟨_,rfl⟩;have hac:c=0->a=0:=by omega
 have hl:tA y=((decide (a=0)&&decide (b≠0))||decide (c=0)):=by unfold tA;rw[ha,hb,hc]
 rw[ha]at e1;rw[hb]at e2;rw[hc]at e3;rw[hl];simp[yk];refine aa hY ?_;cases hy:yr y with
 |false=>simp(disch:=omega)[wl]
 |true=>
  by_cases q1:a=0
  ·by_cases q2:b=0
   ·by_cases q3:c=0
    ·simp(disch:=omega)[wl,e1,e2,e3,q1,q2,q3]
    ·simp(disch:=omega)[wl,e1,e2,e3,q1,q2,q3]
   ·simp(disch:=omega)[wl,e1,e2,e3,q1,q2]
  ·have q3:¬c=0:=fun e=>q1 (hac e)
   simp(disch:=omega)[wl,e1,e2,e3,q1,q3]
theorem tV(y m:Nat)(hy:1<=y/\y<=9999)(h1:1<=m)(h2:m<=13):Fn G2 T_ 180 [.int .i64 y,.int .i64 m] (.int .i64 (fe y m:Nat)):=by
 refine ag hm Dr (by simp) ?_;have hL:=Tk y (by omega);rw[Lu hy,Bool.true_and]at hL;obtain⟨r,hr⟩:=QX h1 h2
 have hb:Lt.getD (m-1) 0=((before m:Nat):Int):=by
  have:m=1\/m=2\/m=3\/m=4\/m=5\/m=6\/m=7\/m=8\/m=9\/m=10\/m=11\/m=12\/m=13:=by omega
  rcases this with rfl|rfl|rfl|rfl|rfl|rfl|rfl|rfl|rfl|rfl|rfl|rfl|rfl<;>rfl
 have hbl:before m<=365:=by
  unfold before;split<;>omega
 rw[hb]at hr;have e0:((m:Int)-1).toNat=m-1:=by omega
 have e1:(0:Int)<=(m:Int)-1:=by omega
 obtain⟨B,hB⟩:∃B,before m=B:=⟨_,rfl⟩;rw[hB]at hr hbl;simp[vR,G2];by_cases q1:2<m
 ·cases q2:tA y with
  |true=>
   have hU:fe y m=B+1:=by unfold fe;rw[hB,if_pos ⟨q1,q2⟩]
   rw[q2]at hL;rw[hU];simp(disch:=omega)[wl,e0,e1,hr];refine⟨by omega,?_⟩;refine aa hL ?_;simp(disch:=omega)[wl]
  |false=>
   have hU:fe y m=B:=by unfold fe;rw[hB,if_neg (by simp[q2])];rfl
   rw[q2]at hL;rw[hU];simp(disch:=omega)[wl,e0,e1,hr];refine⟨by omega,?_⟩;refine aa hL ?_;simp(disch:=omega)[wl]
 ·have hU:fe y m=B:=by unfold fe;rw[hB,if_neg (fun h=>q1 h.1)];rfl
  rw[hU];simp(disch:=omega)[wl,e0,e1,hr];omega
def qB(y m:Nat):Nat:=if 1<=y/\y<=9999/\1<=m/\m<=12 then sf y m else 0
theorem ym(y m:Nat):fe y m<=366:=by
 have:before m<=365:=by unfold before;split<;>omega
 unfold fe;split<;>omega
theorem Mu(y m:Nat):sf y m<=31:=by
 unfold sf qx
 repeat' split
 all_goals omega
theorem Tl(y m:Nat):qB y m<=31:=by
 unfold qB;split
 ·exact Mu y m
 ·omega
theorem Vw(y m:Nat)(hy:y<1000000)(hm':m<1000000):Fn G2 T_ 259 [.int .i64 y,.int .i64 m] (.int .i64 (qB y m:Nat)):=by
 refine ag hm HK (by simp) ?_;have hY:=Gi y hy;simp[AO];refine aa hY ?_;by_cases q0:1<=y/\y<=9999
 ·rw[Lu q0];by_cases q1:1<=m
  ·by_cases q2:m<=12
   ·have hL:qB y m=sf y m:=by unfold qB;rw[if_pos ⟨q0.1,q0.2,q1,q2⟩]
    have hu:=qy y q1 q2;have b1:=ym y m;have b2:=ym y (m+1);have h1:=tV y (m+1) q0 (by omega) (by omega);have h2:=tV y m q0 q1 (by omega);rw[show((m+1:Nat):Int)=(m:Int)+1 by omega]at h1;obtain⟨a,ha⟩:∃a,fe y (m+1)=a:=⟨_,rfl⟩;obtain⟨b,hb⟩:∃b,fe y m=b:=⟨_,rfl⟩;rw[ha]at h1 hu b2;rw[hb]at h2 hu b1;have e:((a:Int)-(b:Int))=((sf y m:Nat):Int):=by omega
    rw[hL];simp(disch:=omega)[wl];refine aa h1 ?_;simp(disch:=omega)[wl];refine aa h2 ?_;simp(disch:=omega)[wl,e]
   ·have hL:qB y m=0:=by unfold qB;rw[if_neg (by omega)]
    rw[hL];simp(disch:=omega)[wl]
  ·have hL:qB y m=0:=by unfold qB;rw[if_neg (by omega)]
   rw[hL];simp(disch:=omega)[wl]
 ·have hL:qB y m=0:=by unfold qB;rw[if_neg (by omega)]
  rw[QY q0,hL];simp(disch:=omega)[wl]
def QZ(y m d:Nat):Nat×Int:=if d<1\/qB y m<d then (0,8)else (rq y m d,0)
def Gj(p:Nat×Int):IV:=.tuple [.int .i64 (p.1:Nat),.int .i64 p.2]
theorem Vx(y m d:Nat)(hy:y<1000000)(hm':m<1000000)(hd:d<1000000):Fn G2 T_ 260 [.int .i64 y,.int .i64 m,.int .i64 d] (Gj (QZ y m d)):=by
 refine ag hm HL (by simp) ?_;have hL:=Vw y m hy hm';obtain⟨R,hR⟩:∃R,QZ y m d=R:=⟨_,rfl⟩;rw[hR];unfold QZ at hR;simp[AQ];by_cases q1:d<1
 ·rw[if_pos (.inl q1)]at hR;subst hR;simp(disch:=omega)[wl,Gj]
 ·by_cases q2:qB y m<d
  ·rw[if_pos (.inr q2)]at hR;subst hR;simp(disch:=omega)[wl];refine aa hL ?_;simp(disch:=omega)[wl,Gj]
  ·rw[if_neg (fun h=>h.elim q1 q2)]at hR;subst hR
   have q3:1<=y/\y<=9999/\1<=m/\m<=12:=by
    by_cases h:1<=y/\y<=9999/\1<=m/\m<=12
    ·exact h
    ·unfold qB at q2;rw[if_neg h]at q2;omega
   have hU:=tV y m ⟨q3.1,q3.2.1⟩ q3.2.2.1 (by omega);have bU:=ym y m;have bL:=Tl y m;obtain⟨p,hp⟩:∃p,y=p+1:=⟨y-1,by omega⟩;have e0:(y:Int)-1=(p:Int):=by omega
   have t1:(p:Int).tdiv 4=((p/4:Nat):Int):=Ur p 4 (by omega);have t2:(p:Int).tdiv 100=((p/100:Nat):Int):=Ur p 100 (by omega);have t3:(p:Int).tdiv 400=((p/400:Nat):Int):=Ur p 400 (by omega);obtain⟨U,hUv⟩:∃U,fe y m=U:=⟨_,rfl⟩
   have hv:rq y m d=p*365+p/4-p/100+p/400+U+d-1:=by
    unfold rq Cv.ahead;rw[hUv,show y-1=p by omega]
   rw[hUv]at hU bU;obtain⟨a,ha⟩:∃a,p/4=a:=⟨_,rfl⟩;obtain⟨b,hb⟩:∃b,p/100=b:=⟨_,rfl⟩;obtain⟨c,hc⟩:∃c,p/400=c:=⟨_,rfl⟩;rw[ha]at t1;rw[hb]at t2;rw[hc]at t3;rw[ha,hb,hc]at hv;have hab:b<=a/\a<=p/\c<=p:=by omega
   rw[hv];simp(disch:=omega)[wl];refine aa hL ?_;simp(disch:=omega)[wl,e0,t1,t2,t3];refine aa hU ?_;simp(disch:=omega)[wl,Gj];omega
theorem R0(n:Nat)(h:n<=3652058):Fn G2 T_ 178 [.int .i64 n] (.bool true):=by
 refine ag hm Dp (by simp) ?_;simp[vN];omega
theorem R1(n:Nat)(h:n<=3652058):Fn G2 T_ 179 [.int .i64 n] (.tuple [.int .i64 ((jV n).1:Nat),.int .i64 ((jV n).2:Nat)]):=by
 refine ag hm Dq (by simp) ?_;obtain⟨a,ha⟩:∃a,n/146097=a:=⟨_,rfl⟩;obtain⟨n1,h1⟩:∃n1,n%146097=n1:=⟨_,rfl⟩;obtain⟨c0,hc0⟩:∃c0,n1/36524=c0:=⟨_,rfl⟩;obtain⟨c,hc⟩:∃c,min c0 3=c:=⟨_,rfl⟩;obtain⟨n2,h2⟩:∃n2,n1-c*36524=n2:=⟨_,rfl⟩;obtain⟨q,hq⟩:∃q,n2/1461=q:=⟨_,rfl⟩;obtain⟨n3,h3⟩:∃n3,n2%1461=n3:=⟨_,rfl⟩;obtain⟨k0,hk0⟩:∃k0,n3/365=k0:=⟨_,rfl⟩;obtain⟨k,hk⟩:∃k,min k0 3=k:=⟨_,rfl⟩
 have hs:jV n=(1+a*400+100*c+4*q+k,n3-k*365):=by
  unfold jV;simp only[ha,h1,hc0,hc,h2,hq,h3,hk0,hk]
 have t1:(n:Int).tdiv 146097=(a:Int):=by rw[<-ha];exact Ur n 146097 (by omega)
 have t2:(n:Int).tmod 146097=(n1:Int):=by rw[<-h1];exact WG n 146097 (by omega)
 have t3:(n1:Int).tdiv 36524=(c0:Int):=by rw[<-hc0];exact Ur n1 36524 (by omega)
 have t4:min (c0:Int) 3=(c:Int):=by omega
 have t5:(n1:Int)-(c:Int)*36524=(n2:Int):=by omega
 have t6:(n2:Int).tdiv 1461=(q:Int):=by rw[<-hq];exact Ur n2 1461 (by omega)
 have t7:(n2:Int).tmod 1461=(n3:Int):=by rw[<-h3];exact WG n2 1461 (by omega)
 have t8:(n3:Int).tdiv 365=(k0:Int):=by rw[<-hk0];exact Ur n3 365 (by omega)
 have t9:min (k0:Int) 3=(k:Int):=by omega
 have t10:(n3:Int)-(k:Int)*365=((n3-k*365:Nat):Int):=by omega
 have b1:a<=25/\c<=3/\q<=100/\k<=3:=by omega
 rw[hs];simp only;simp[vP];simp(disch:=omega)[wl,t1,t2,t3,t4,t5,t6,t7,t8,t9,t10];omega
theorem Tn(n:Nat)(h:n<=3652058):Fn G2 T_ 122 [.int .i64 n] (.tuple [.int .i64 ((rW n).1:Nat),.int .i64 ((rW n).2.1:Nat),.int .i64 ((rW n).2.2:Nat),.int .i64 0]):=by
 refine ag hm EQ (by simp) ?_;have hD:=R0 n h;have hS:=R1 n h;obtain⟨y,m,d,g1,g2,g3,g4,g5,g6,g7,g8⟩:=Dh h;obtain⟨⟨Y,t⟩,hs⟩:∃p,jV n=p:=⟨_,rfl⟩
 have hY:Y=y:=by
  have:=congrArg Prod.fst g8;unfold rW at this;rw[hs]at this;exact this
 have hm2:zO Y t=m:=by
  have:=congrArg (fun p=>p.2.1) g8;unfold rW at this;rw[hs]at this;exact this
 have hd2:t-fe Y m+1=d:=by
  have:=congrArg (fun p=>p.2.2) g8;unfold rW at this;rw[hs]at this;simp only[hm2]at this;exact this
 subst hY;rw[hs]at hS;simp only at hS;have bu:=ym Y m;have bm:=Mu Y m;have hul:=HH Y g3 g4;have hus:=qy Y g3 g4;have hyl:qx Y<=366:=by unfold qx;split<;>omega
 have htl:fe Y m<=t/\t<366:=by
  have hsa:jV n=(Y,fe Y m+d-1):=by
   have e:n=Cv.ahead Y+(fe Y m+d-1):=by rw[<-g7];unfold rq;omega
   rw[e];exact AJ g1 (by omega)
  rw[hs]at hsa;have:=congrArg Prod.snd hsa;simp only at this;omega
 have t32:(t:Int).tdiv 32=((t/32:Nat):Int):=Ur t 32 (by omega);have h1:=tV Y (t/32+2) ⟨g1,g2⟩ (by omega) (by omega);rw[show((t/32+2:Nat):Int)=((t/32:Nat):Int)+1+1 by omega]at h1;have h2:=tV Y m ⟨g1,g2⟩ g3 (by omega);rw[g8];simp only;unfold zO at hm2;obtain⟨k,hk⟩:∃k,t/32=k:=⟨_,rfl⟩;rw[hk]at t32 h1 hm2;obtain⟨u,hu⟩:∃u,fe Y (k+2)=u:=⟨_,rfl⟩;obtain⟨v,hv⟩:∃v,fe Y m=v:=⟨_,rfl⟩;rw[hu]at h1 hm2;rw[hv]at h2 htl hd2;have hub:u<=366:=by rw[<-hu];exact ym _ _
 simp[yi];refine aa hD ?_;simp(disch:=omega)[wl];refine aa hS ?_;simp(disch:=omega)[wl,t32];refine aa h1 ?_;by_cases q:u<=t
 ·rw[if_pos q]at hm2;have e:(k:Int)+1+1=(m:Int):=by omega
  simp(disch:=omega)[wl,e];refine aa h2 ?_;simp(disch:=omega)[wl];omega
 ·rw[if_neg q]at hm2;have e:(k:Int)+1=(m:Int):=by omega
  simp(disch:=omega)[wl,e];refine aa h2 ?_;simp(disch:=omega)[wl];omega
end Go.Vs.YtcjeehebikeghaaGreatDoor.Rc
